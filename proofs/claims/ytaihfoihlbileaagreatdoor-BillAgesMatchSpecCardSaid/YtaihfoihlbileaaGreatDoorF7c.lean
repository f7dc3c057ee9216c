import Derived.Test.YtaihfoihlbileaaGreatDoorF7b
set_option maxHeartbeats 8000000
set_option maxRecDepth 1000000
set_option linter.unusedVariables false
set_option linter.unusedSimpArgs false
set_option linter.unusedSectionVars false
namespace Go.Proofs.YtaihfoihlbileaaGreatDoor.R7
open Go.RowKit Go.Proofs.YtaihfoihlbileaaGreatDoorW.PrintWords Go.Proofs.YtaihfoihlbileaaGreatDoorW.PrintLast Go.Proofs.YtaihfoihlbileaaGreatDoorW.PrintMore
attribute [local go_sem] vZ vY vT yZ xH xG vz vX   
def yV.f (k : Nat) (a0_0 : Bool) (l0_1 : List Int) : Option (Bool × List Int) := (jT.f k (!a0_0) l0_1).bind fun bt205 => (some (bt205.1, bt205.2))
theorem yV.calls (k : Nat) (a0_0 : Bool) (P0_1_ : Nat → Prop) (A0_1 : Option Addr) (c0_1 : Nat) (l0_1 : List Int) (r1 : Bool) (r2 : List Int) (w : World) (hs0_1 : Kd.V (Kd.int .u32) 114 w w.heap.size (fun k_ => P0_1_ k_) (.slice A0_1 l0_1.length c0_1) l0_1) (h : yV.f k a0_0 l0_1 = some (r1, r2)) :
  Calls Tryz.prog 80 #[.agg #[.bool a0_0, .slice A0_1 l0_1.length c0_1]] w fun e w' => ∃ v1_ : Value, e = .returned (.agg #[.bool r1, v1_]) ∧ Kd.V (Kd.int .u32) 114 w' w.heap.size (fun k_ => (P0_1_ k_ ∨ w.heap.size ≤ k_)) v1_ r2 ∧ Below w.heap.size w w' := by
 have hu96 := Tryz.underlying96
 have HO0_1 := zQ.mk (show Kd.V (Kd.int .u32) 114 w w.heap.size (fun k_ => (P0_1_ k_ ∨ w.heap.size ≤ k_)) (.slice A0_1 l0_1.length c0_1) l0_1 from Kd.zR hs0_1 (fun k_ hk => .inl hk))
 have HB := zQ.mk (Below.refl w.heap.size w)
 have H := h
 unfold yV.f at H
 clear h
 replace H := Option.bind_eq_some_iff.mp H
 obtain ⟨⟨t205, t206⟩, A20, H⟩ := H
 try dsimp only at H
 have A2 := zQ.mk A20
 clear A20
 simp only [Option.some.injEq, Prod.mk.injEq] at H
 obtain ⟨rfl, rfl⟩ := H
 go_enter Tryz.func80, Tryz.ntmps80
 go_wp2_with (first | ((with_reducible refine gD 1 rfl ?_); refine jU ?hg (N := 1) ?hd (cs := #[.bool a0_0, .slice A0_1 l0_1.length c0_1]) (t := 96) ?hr ?_; (case hd => rfl); (case hg => rfl); (case hr => first | (go_simp; done) | (go_simp; rfl)); intro gb203 hg w3 hbox hb; replace HO0_1 := zQ.mk (Kd.qJ (Kd.jK (by (with_reducible repeat (first | apply Kd.V_alloc | apply Kd.V_drewN | apply Kd.zT)); exact HO0_1.out) gb203 (Nat.le_of_eq hg.symm)) hb); have BK203 := zQ.mk (hbox); have GW203 := zQ.mk ((by rw [hg]; exact (zy (zb w)) : w.heap.size ≤ gb203)); have GE203 := zQ.mk ((by rw [hg]; exact (zy (zb w)) : w.heap.size ≤ gb203)); replace HB := hs w hb; clear hb hg) | ((with_reducible refine gD 2 rfl ?_); refine jU ?hg (N := 2) ?hd (cs := #[.bool false, .slice none 0 0]) (t := 96) ?hr ?_; (case hd => rfl); (case hg => rfl); (case hr => first | (go_simp; done) | (go_simp; rfl)); intro gb204 hg w4 hbox hb; replace HO0_1 := zQ.mk (Kd.qJ (Kd.jK (by (with_reducible repeat (first | apply Kd.V_alloc | apply Kd.V_drewN | apply Kd.zT)); exact HO0_1.out) gb204 (Nat.le_of_eq hg.symm)) hb); have BK204 := zQ.mk (hbox); have GW204 := zQ.mk ((by rw [hg]; exact (zy (zb w)) : w.heap.size ≤ gb204)); have GE204 := zQ.mk ((by rw [hg]; exact (zy (zb w)) : w.heap.size ≤ gb204)); replace HB := hs w hb; have NB203_204 := nbl BK203 hg; have NB204_203 := nbr BK203 hg; replace BK203 := bb BK203 hb; clear hb hg; have hnb5 := NB203_204.out; have hnc5 := NB204_203.out; obtain ⟨hcz6_0, hcz6_1, hfz6_0, hfz6_1⟩ := cz2 BK203) | ((with_reducible refine gC 82 rfl ?_); refine gl_ 8 Tryz.func82 #[.bool (!a0_0), .slice A0_1 l0_1.length c0_1] ?_; (with_reducible refine (jT.calls k (!a0_0) (fun k_ => (((P0_1_ k_ ∨ w.heap.size ≤ k_) ∧ k_ ≠ gb203) ∧ k_ ≠ gb204)) _ _ l0_1 t205 t206 _ HO0_1.out A2.out).mono ?_); rintro e w7 ⟨v207, rfl, ho0, hb⟩; refine ⟨_, rfl, ?_⟩; replace HO0_1 := zQ.mk (Kd.qJ (by (with_reducible repeat (first | apply Kd.V_alloc | apply Kd.V_drewN | apply Kd.zT)); exact HO0_1.out) hb); have HO208 := zQ.mk (Kd.xJ (Kd.zR (ok' := fun k_ => (P0_1_ k_ ∨ w.heap.size ≤ k_) ∧ k_ ≠ gb203 ∧ k_ ≠ gb204) ho0 (fun k_ hk_ => ⟨Or.elim hk_ (fun hs_ => hs_.1.1) (fun hn_ => (.inr (Nat.le_trans (zy (zb w)) hn_))), Or.elim hk_ (fun hs_ => hs_.1.2) (fun hn_ => (Kd.qH (g := gb203) (o := .cells #[.bool a0_0, .slice A0_1 l0_1.length c0_1] 96 (0, 0)) (zk BK203) k_ hn_)), Or.elim hk_ (fun hs_ => hs_.2) (fun hn_ => (Kd.qH (g := gb204) (o := .cells #[.bool false, .slice none 0 0] 96 (0, 0)) (zk BK204) k_ hn_))⟩)) (zy (zb w))); replace BK203 := bb BK203 hb; replace BK204 := bb BK204 hb; replace HB := hs w hb; (try clear hb); (try clear ho0); obtain ⟨hcz8_0, hcz8_1, hfz8_0, hfz8_1⟩ := cz2 BK204; obtain ⟨Ao9, co9, eo9⟩ := Kd.jW HO208.out; subst eo9))
 refine bodyPost_ret (results_cell_row rfl _ _ gb204 96 #[.bool t205, .slice Ao9 t206.length co9] (0, 0) _ rfl (by (with_reducible repeat (first | refine zJ ?_ _ | refine zK ?_ | refine zZ ?_ _)); refine zL (cs := #[.bool t205, .slice none 0 0]) ?_ 1 _ rfl; (with_reducible repeat (first | refine zJ ?_ _ | refine zK ?_ | refine zZ ?_ _)); refine zL (cs := #[.bool false, .slice none 0 0]) ?_ 0 _ rfl; exact zk BK204) Tryz.underlying96 rfl (by kernel_rfl)) rfl ?_
 exact ⟨_, by first | rfl | (simp [zq, zY] <;> rfl) | (simp [*, zq, zY] <;> rfl), by (with_reducible repeat (first | apply Kd.V_alloc | apply Kd.V_drewN | apply Kd.zT)); exact Kd.zR (Kd.qL (p := ⟨gb204, 1, none⟩) (Kd.qL (p := ⟨gb204, 0, none⟩) (Kd.zR HO208.out (fun k_ hk => (⟨hk, hk.2.2⟩ : _ ∧ k_ ≠ gb204))) (fun _ hk => hk.2) (.bool t205)) (fun _ hk => hk.2) (.slice Ao9 t206.length co9)) (fun _ hk => hk.1.1), (zb w)⟩
def qU.l0 : Nat → Int → Int → List Int → Int → Int → Bool → List Int → Option (Int × Bool)
 | 0, _, _, _, _, _, _, _ => none
 | k + 1, x1, x6, x14, x15, x16, x210000, x210001 => if x16 < x15 then (if 0 ≤ x16 then (if x16 < (x14.length : Int) then (if 0 ≤ (wrap64 (32 * x16)) then (qU.l0 k x1 (Go.bits .or .u64 x6 (shl .u64 (IntKind.u64.wrap (rd x14 x16)) (wrap64 (32 * x16)))) x14 x15 (wrap64 (x16 + 1)) x210000 x210001) else (none)) else (none)) else (none)) else (if x6 > (IntKind.u64.wrap (x1)) then (some (0, false)) else (if x210000 = true then (some (wrap64 (-(wrap64 (x6))), true)) else (some (wrap64 (x6), true))))
def qU.f (k : Nat) (a0_0 : Bool) (l0_1 : List Int) (a1 : Int) : Option (Int × Bool) := if (l0_1.length : Int) > 2 then (some (0, false)) else (qU.l0 k a1 0 l0_1 (l0_1.length : Int) 0 a0_0 l0_1)
theorem qU.calls (k : Nat) (a0_0 : Bool) (A0_1 : Option Addr) (c0_1 : Nat) (l0_1 : List Int) (a1 : Int) (r1 : Int) (r2 : Bool) (w : World) (hr0_1 : Kd.C (Kd.int .u32) w A0_1 l0_1.length l0_1) (hc0_1 : l0_1.length ≤ c0_1) (h : qU.f k a0_0 l0_1 a1 = some (r1, r2)) :
  Calls Tryz.prog 96 #[.agg #[.bool a0_0, .slice A0_1 l0_1.length c0_1], .int .i64 a1] w fun e w' => e = .returned (.tuple #[.int .i64 r1, .bool r2]) ∧ Below w.heap.size w w' := by
 have hu96 := Tryz.underlying96
 have HR0_1 := zQ.mk hr0_1
 have HC0_1 := zQ.mk hc0_1
 clear hr0_1 hc0_1
 have HB := zQ.mk (Below.refl w.heap.size w)
 have H := h
 unfold qU.f at H
 clear h
 by_cases c3 : (l0_1.length : Int) > 2
 ·rw [if_pos c3] at H
  have c3b0 : decide (2 < (l0_1.length : Int)) = true := decide_eq_true c3
  have c3b1 : decide (2 < l0_1.length) = true := decide_eq_true (by omega)
  clear c3
  simp only [Option.some.injEq, Prod.mk.injEq] at H
  obtain ⟨rfl, rfl⟩ := H
  go_enter Tryz.func96, Tryz.ntmps96
  go_wp2_with (first | ((with_reducible refine gD 2 rfl ?_); refine bx w 2 #[.bool a0_0, .slice A0_1 l0_1.length c0_1] 96 ?_; intro gb209 hg w4 hb BK209 GW209 GE209; clear HB; intro HB; clear hb hg; obtain ⟨hcz5_0, hcz5_1, hfz5_0, hfz5_1⟩ := cz2 BK209))
  go_ret2
  exact ⟨by first | rfl | (simp [zq, zY] <;> rfl) | (simp [*, zq, zY] <;> rfl), (zb w)⟩
 ·rw [if_neg c3] at H
  have c3b0 : decide (2 < (l0_1.length : Int)) = false := decide_eq_false c3
  have c3b1 : decide (2 < l0_1.length) = false := decide_eq_false (by omega)
  clear c3
  have H' := zQ.mk H
  clear H
  go_enter Tryz.func96, Tryz.ntmps96
  go_wp2_with (first | ((with_reducible refine gD 2 rfl ?_); refine bx w 2 #[.bool a0_0, .slice A0_1 l0_1.length c0_1] 96 ?_; intro gb209 hg w6 hb BK209 GW209 GE209; clear HB; intro HB; clear hb hg; obtain ⟨hcz7_0, hcz7_1, hfz7_0, hfz7_1⟩ := cz2 BK209))
  try simp only [sq]
  go_loopg [6, 16] k (fun kq v6 v16 w' => ∃ (x6_1 : Int) (x16_1 : Int), v6 = .int .u64 x6_1 ∧ v16 = .int .i64 x16_1 ∧ zQ (qU.l0 kq a1 x6_1 l0_1 (l0_1.length : Int) x16_1 a0_0 l0_1 = some (r1, r2)) ∧ zQ (kq ≤ k) ∧ zQ (w'.heap[gb209]? = some (.cells #[.bool a0_0, (.slice A0_1 l0_1.length c0_1)] 96 (0, 0))) ∧ zQ (Below w.heap.size w w'))
  case atStart => exact ⟨(0), (0), ar, ar, H', ⟨Nat.le_refl _⟩, ⟨(zk BK209)⟩, ⟨(zb w)⟩⟩
  case round =>
   clear H'
   try clear p2
   try clear c3
   try clear c3b0
   try clear c3b1
   try clear hcz5_0 hcz5_1
   try clear hcz7_0 hcz7_1
   try clear hfz5_0 hfz5_1
   try clear hfz7_0 hfz7_1
   obtain ⟨x6_1, x16_1, rfl, rfl, HA, HK1, BK209, HB⟩ := hrel
   cases gk with
   | zero => exact absurd HA.out (by simp [qU.l0])
   | succ k1 =>
    have H := HA.out
    clear HA
    simp only [qU.l0] at H
    by_cases c8 : x16_1 < (l0_1.length : Int)
    ·rw [if_pos c8] at H
     have c8b0 : decide (x16_1 < (l0_1.length : Int)) = true := decide_eq_true c8
     clear c8
     by_cases c9 : 0 ≤ x16_1
     ·rw [if_pos c9] at H
      have c9b0 : decide (0 ≤ x16_1) = true := decide_eq_true c9
      clear c9
      by_cases c10 : x16_1 < (l0_1.length : Int)
      ·rw [if_pos c10] at H
       have c10b0 : decide (x16_1 < (l0_1.length : Int)) = true := decide_eq_true c10
       clear c10
       obtain ⟨ji11, hji11⟩ : ∃ j_ : Int, (wrap64 (32 * x16_1)) = j_ := ⟨_, rfl⟩
       replace H : (if 0 ≤ (ji11) then (qU.l0 k1 a1 (Go.bits .or .u64 x6_1 (shl .u64 (IntKind.u64.wrap (rd l0_1 x16_1)) (ji11))) l0_1 (l0_1.length : Int) (wrap64 (x16_1 + 1)) a0_0 l0_1) else (none)) = some (r1, r2) := by first | (rw [hji11] at H; exact H) | (simp only [hji11] at H ⊢; exact H)
       have hji11w : (IntKind.i64.wrap (32 * x16_1)) = ji11 := (jw _).trans hji11
       by_cases c12 : 0 ≤ (ji11)
       ·rw [if_pos c12] at H
        have c12b0 := eq_true c12
        have c12b1 : decide (0 ≤ (ji11)) = true := decide_eq_true c12
        clear c12
        obtain ⟨ji13, hji13⟩ : ∃ j_ : Int, (shl .u64 (IntKind.u64.wrap (rd l0_1 x16_1)) (ji11)) = j_ := ⟨_, rfl⟩
        replace H : (qU.l0 k1 a1 (Go.bits .or .u64 x6_1 (ji13)) l0_1 (l0_1.length : Int) (wrap64 (x16_1 + 1)) a0_0 l0_1) = some (r1, r2) := by first | (rw [hji13] at H; exact H) | (simp only [hji13] at H ⊢; exact H)
        have hji13_ : (IntKind.u64.wrap ((IntKind.u64.wrap (rd l0_1 x16_1)) * 2 ^ min (ji11).toNat 64)) = ji13 := hji13
        have hji13z : (ji11) ≤ 64 → (IntKind.u64.wrap ((IntKind.u64.wrap (rd l0_1 x16_1)) * 2 ^ (ji11).toNat)) = ji13 := zCh hji13
        have H' := zQ.mk H
        clear H
        have p210 : 0 ≤ (x16_1 : Int) := of_decide_eq_true (by assumption)
        have q210 : x16_1 < (l0_1.length : Int) := of_decide_eq_true (by assumption)
        obtain ⟨ad210, e210, hx210_0⟩ := Kd.jy HR0_1.out x16_1 p210 q210
        cases e210
        replace hx210_0 := hz HB hx210_0
        replace p210 := eq_true p210
        replace q210 := eq_true q210
        go_wp2
        go_roundg k1
        case measure => have := HK1.out; omega
        case rel => exact ⟨(Go.bits .or .u64 x6_1 (ji13)), (wrap64 (x16_1 + 1)), (by first | rfl | (simp; done) | (simp only [← hji13] <;> (first | rfl | simp)) | (simp [*]; done)), ar, H', ⟨by have := HK1.out; omega⟩, ⟨(zk BK209)⟩, ⟨(zb w)⟩⟩
       ·rw [if_neg c12] at H
        exact absurd H (by simp)
      ·rw [if_neg c10] at H
       exact absurd H (by simp)
     ·rw [if_neg c9] at H
      exact absurd H (by simp)
    ·rw [if_neg c8] at H
     have c8b0 : decide (x16_1 < (l0_1.length : Int)) = false := decide_eq_false c8
     clear c8
     by_cases c14 : x6_1 > (IntKind.u64.wrap (a1))
     ·rw [if_pos c14] at H
      have c14b0 : decide ((IntKind.u64.wrap (a1)) < x6_1) = true := decide_eq_true c14
      clear c14
      simp only [Option.some.injEq, Prod.mk.injEq] at H
      obtain ⟨rfl, rfl⟩ := H
      go_wp2
      go_ret2
      exact ⟨by first | rfl | (simp [zq, zY] <;> rfl) | (simp [*, zq, zY] <;> rfl), (zb w)⟩
     ·rw [if_neg c14] at H
      have c14b0 : decide ((IntKind.u64.wrap (a1)) < x6_1) = false := decide_eq_false c14
      clear c14
      by_cases c15 : a0_0 = true
      ·subst c15
       have H1 : (some (wrap64 (-(wrap64 (x6_1))), true)) = some (r1, r2) := by rw [if_pos rfl] at H; exact H
       clear H
       have H := H1
       clear H1
       simp only [Option.some.injEq, Prod.mk.injEq] at H
       obtain ⟨rfl, rfl⟩ := H
       obtain ⟨hcz16_0, hcz16_1, hfz16_0, hfz16_1⟩ := cz2 BK209
       go_wp2
       go_ret2
       exact ⟨by first | rfl | (simp [zq, zY] <;> rfl) | (simp [*, zq, zY] <;> rfl), (zb w)⟩
      ·replace c15 := Bool.eq_false_iff.mpr c15
       subst c15
       have H1 : (some (wrap64 (x6_1), true)) = some (r1, r2) := by rw [if_neg (show ¬ (false = true) by decide)] at H; exact H
       clear H
       have H := H1
       clear H1
       simp only [Option.some.injEq, Prod.mk.injEq] at H
       obtain ⟨rfl, rfl⟩ := H
       obtain ⟨hcz17_0, hcz17_1, hfz17_0, hfz17_1⟩ := cz2 BK209
       go_wp2
       go_ret2
       exact ⟨by first | rfl | (simp [zq, zY] <;> rfl) | (simp [*, zq, zY] <;> rfl), (zb w)⟩
def vW.f (k : Nat) (a0_0 : Bool) (l0_1 : List Int) (a1 : Int) : Option (Int × Int × Int) := (qU.f k a0_0 l0_1 1000000000000000).bind fun bt213 => (if bt213.2 = true then (some (bt213.1, a1, 0)) else (some (0, 0, 1)))
theorem vW.calls (k : Nat) (a0_0 : Bool) (A0_1 : Option Addr) (c0_1 : Nat) (l0_1 : List Int) (a1 : Int) (r1 : Int) (r2 : Int) (r3 : Int) (w : World) (hr0_1 : Kd.C (Kd.int .u32) w A0_1 l0_1.length l0_1) (hc0_1 : l0_1.length ≤ c0_1) (h : vW.f k a0_0 l0_1 a1 = some (r1, r2, r3)) :
  Calls Tryz.prog 81 #[.agg #[.bool a0_0, .slice A0_1 l0_1.length c0_1], .int .i64 a1] w fun e w' => e = .returned (.tuple #[.agg #[.int .i64 r1, .int .i64 r2], .int .i64 r3]) ∧ Below w.heap.size w w' := by
 have hu96 := Tryz.underlying96
 have hu33 := Tryz.underlying33
 have HR0_1 := zQ.mk hr0_1
 have HC0_1 := zQ.mk hc0_1
 clear hr0_1 hc0_1
 have HB := zQ.mk (Below.refl w.heap.size w)
 have H := h
 unfold vW.f at H
 clear h
 replace H := Option.bind_eq_some_iff.mp H
 obtain ⟨⟨t213, t214⟩, A30, H⟩ := H
 try dsimp only at H
 have A3 := zQ.mk A30
 clear A30
 by_cases c4 : t214 = true
 ·subst c4
  have H1 : (some (t213, a1, 0)) = some (r1, r2, r3) := by rw [if_pos rfl] at H; exact H
  clear H
  have H := H1
  clear H1
  simp only [Option.some.injEq, Prod.mk.injEq] at H
  obtain ⟨rfl, rfl, rfl⟩ := H
  go_enter Tryz.func81, Tryz.ntmps81
  go_wp2_with (first | ((with_reducible refine gD 2 rfl ?_); refine bx w 2 #[.bool a0_0, .slice A0_1 l0_1.length c0_1] 96 ?_; intro gb211 hg w5 hb BK211 GW211 GE211; clear HB; intro HB; clear hb hg) | ((with_reducible refine gD 4 rfl ?_); refine bx w 4 #[.int .i64 0, .int .i64 0] 33 ?_; intro gb212 hg w6 hb BK212 GW212 GE212; clear HB; intro HB; have NB211_212 := nbl BK211 hg; have NB212_211 := nbr BK211 hg; replace BK211 := bb BK211 hb; clear hb hg; have hnb7 := NB211_212.out; have hnc7 := NB212_211.out; obtain ⟨hcz8_0, hcz8_1, hfz8_0, hfz8_1⟩ := cz2 BK211) | ((with_reducible refine gC 96 rfl ?_); refine gl_ 10 Tryz.func96 #[.agg #[.bool a0_0, .slice A0_1 l0_1.length c0_1], .int .i64 1000000000000000] ?_; (with_reducible refine (qU.calls k a0_0 _ _ l0_1 1000000000000000 t213 true _ (zc HR0_1) HC0_1.out A3.out).mono ?_); rintro e w9 ⟨rfl, hb⟩; refine ⟨_, rfl, ?_⟩; replace BK211 := bb BK211 hb; replace BK212 := bb BK212 hb; replace HB := hs w hb; (try clear hb); obtain ⟨hcz10_0, hcz10_1, hfz10_0, hfz10_1⟩ := cz2 BK212))
  refine bodyPost_ret (kX rfl _ _ gb212 33 #[.int .i64 t213, .int .i64 a1] (0, 0) _ rfl (by (with_reducible repeat (first | refine zJ ?_ _ | refine zK ?_ | refine zZ ?_ _)); refine zL (cs := #[.int .i64 t213, .int .i64 0]) ?_ 1 _ rfl; (with_reducible repeat (first | refine zJ ?_ _ | refine zK ?_ | refine zZ ?_ _)); refine zL (cs := #[.int .i64 0, .int .i64 0]) ?_ 0 _ rfl; exact zk BK212) Tryz.underlying33 rfl (by kernel_rfl)) rfl ?_
  exact ⟨by first | rfl | (simp [zq, zY] <;> rfl) | (simp [*, zq, zY] <;> rfl), (zb w)⟩
 ·replace c4 := Bool.eq_false_iff.mpr c4
  subst c4
  have H1 : (some (0, 0, 1)) = some (r1, r2, r3) := by rw [if_neg (show ¬ (false = true) by decide)] at H; exact H
  clear H
  have H := H1
  clear H1
  simp only [Option.some.injEq, Prod.mk.injEq] at H
  obtain ⟨rfl, rfl, rfl⟩ := H
  go_enter Tryz.func81, Tryz.ntmps81
  go_wp2_with (first | ((with_reducible refine gD 2 rfl ?_); refine bx w 2 #[.bool a0_0, .slice A0_1 l0_1.length c0_1] 96 ?_; intro gb211 hg w11 hb BK211 GW211 GE211; clear HB; intro HB; clear hb hg) | ((with_reducible refine gD 4 rfl ?_); refine bx w 4 #[.int .i64 0, .int .i64 0] 33 ?_; intro gb212 hg w12 hb BK212 GW212 GE212; clear HB; intro HB; have NB211_212 := nbl BK211 hg; have NB212_211 := nbr BK211 hg; replace BK211 := bb BK211 hb; clear hb hg; have hnb13 := NB211_212.out; have hnc13 := NB212_211.out; obtain ⟨hcz14_0, hcz14_1, hfz14_0, hfz14_1⟩ := cz2 BK211) | ((with_reducible refine gC 96 rfl ?_); refine gl_ 10 Tryz.func96 #[.agg #[.bool a0_0, .slice A0_1 l0_1.length c0_1], .int .i64 1000000000000000] ?_; (with_reducible refine (qU.calls k a0_0 _ _ l0_1 1000000000000000 t213 false _ (zc HR0_1) HC0_1.out A3.out).mono ?_); rintro e w15 ⟨rfl, hb⟩; refine ⟨_, rfl, ?_⟩; replace BK211 := bb BK211 hb; replace BK212 := bb BK212 hb; replace HB := hs w hb; (try clear hb); obtain ⟨hcz16_0, hcz16_1, hfz16_0, hfz16_1⟩ := cz2 BK212))
  refine bodyPost_ret (kX rfl _ _ gb212 33 #[.int .i64 0, .int .i64 0] (0, 0) _ rfl (by (with_reducible repeat (first | refine zJ ?_ _ | refine zK ?_ | refine zZ ?_ _)); refine zL (cs := #[.int .i64 0, .int .i64 0]) ?_ 1 _ rfl; (with_reducible repeat (first | refine zJ ?_ _ | refine zK ?_ | refine zZ ?_ _)); refine zL (cs := #[.int .i64 0, .int .i64 0]) ?_ 0 _ rfl; exact zk BK212) Tryz.underlying33 rfl (by kernel_rfl)) rfl ?_
  exact ⟨by first | rfl | (simp [zq, zY] <;> rfl) | (simp [*, zq, zY] <;> rfl), (zb w)⟩
def jJ.l0 : Nat → Int → Bool → List Int → Bool → List Int → Option (Int × Int × Int)
 | 0, _, _, _, _, _ => none
 | k + 1, x1, x216000, x216001, x222000, x222001 => if x1 > 0 then ((zU.f k x216000 x216001 x222000 x222001).bind fun bt225 => ((jS.f bt225.2.2.1 bt225.2.2.2).bind fun t235 => (if t235 = 0 then ((jS.f x216000 x216001).bind fun t239 => (if t239 < 0 then ((yV.f k bt225.1 bt225.2.1).bind fun bt240 => (jJ.l0 k (wrap64 (x1 - 1)) bt240.1 bt240.2 x222000 x222001)) else (jJ.l0 k (wrap64 (x1 - 1)) bt225.1 bt225.2.1 x222000 x222001))) else ((vW.f k x216000 x216001 x1).bind fun bt236 => (some (bt236.1, bt236.2.1, bt236.2.2)))))) else ((vW.f k x216000 x216001 x1).bind fun bt222 => (some (bt222.1, bt222.2.1, bt222.2.2)))
def jJ.f (k : Nat) (a0_0 : Bool) (l0_1 : List Int) (a1 : Int) : Option (Int × Int × Int) := (uL.f k 10).bind fun bt217 => (jJ.l0 k a1 a0_0 l0_1 bt217.1 bt217.2)
theorem jJ.calls (k : Nat) (a0_0 : Bool) (P0_1_ : Nat → Prop) (A0_1 : Option Addr) (c0_1 : Nat) (l0_1 : List Int) (a1 : Int) (r1 : Int) (r2 : Int) (r3 : Int) (w : World) (hs0_1 : Kd.V (Kd.int .u32) 114 w w.heap.size (fun k_ => P0_1_ k_) (.slice A0_1 l0_1.length c0_1) l0_1) (h : jJ.f k a0_0 l0_1 a1 = some (r1, r2, r3)) :
  Calls Tryz.prog 60 #[.agg #[.bool a0_0, .slice A0_1 l0_1.length c0_1], .int .i64 a1] w fun e w' => e = .returned (.tuple #[.agg #[.int .i64 r1, .int .i64 r2], .int .i64 r3]) ∧ Below w.heap.size w w' := by
 have hu96 := Tryz.underlying96
 have hu33 := Tryz.underlying33
 have HO0_1 := zQ.mk (show Kd.V (Kd.int .u32) 114 w w.heap.size (fun k_ => (P0_1_ k_ ∨ w.heap.size ≤ k_)) (.slice A0_1 l0_1.length c0_1) l0_1 from Kd.zR hs0_1 (fun k_ hk => .inl hk))
 have HB := zQ.mk (Below.refl w.heap.size w)
 have H := h
 unfold jJ.f at H
 clear h
 replace H := Option.bind_eq_some_iff.mp H
 obtain ⟨⟨t217, t218⟩, A30, H⟩ := H
 try dsimp only at H
 have A3 := zQ.mk A30
 clear A30
 have H' := zQ.mk H
 clear H
 go_enter Tryz.func60, Tryz.ntmps60
 go_wp2_with (first | ((with_reducible refine gD 2 rfl ?_); refine jU ?hg (N := 2) ?hd (cs := #[.bool a0_0, .slice A0_1 l0_1.length c0_1]) (t := 96) ?hr ?_; (case hd => rfl); (case hg => rfl); (case hr => first | (go_simp; done) | (go_simp; rfl)); intro gb215 hg w4 hbox hb; replace HO0_1 := zQ.mk (Kd.qJ (Kd.jK (by (with_reducible repeat (first | apply Kd.V_alloc | apply Kd.V_drewN | apply Kd.zT)); exact HO0_1.out) gb215 (Nat.le_of_eq hg.symm)) hb); have BK215 := zQ.mk (hbox); have GW215 := zQ.mk ((by rw [hg]; exact (zy (zb w)) : w.heap.size ≤ gb215)); have GE215 := zQ.mk ((by rw [hg]; exact (zy (zb w)) : w.heap.size ≤ gb215)); replace HB := hs w hb; clear hb hg) | ((with_reducible refine gD 4 rfl ?_); refine jU ?hg (N := 4) ?hd (cs := #[.int .i64 0, .int .i64 0]) (t := 33) ?hr ?_; (case hd => rfl); (case hg => rfl); (case hr => first | (go_simp; done) | (go_simp; rfl)); intro gb216 hg w5 hbox hb; replace HO0_1 := zQ.mk (Kd.qJ (Kd.jK (by (with_reducible repeat (first | apply Kd.V_alloc | apply Kd.V_drewN | apply Kd.zT)); exact HO0_1.out) gb216 (Nat.le_of_eq hg.symm)) hb); have BK216 := zQ.mk (hbox); have GW216 := zQ.mk ((by rw [hg]; exact (zy (zb w)) : w.heap.size ≤ gb216)); have GE216 := zQ.mk ((by rw [hg]; exact (zy (zb w)) : w.heap.size ≤ gb216)); replace HB := hs w hb; have NB215_216 := nbl BK215 hg; have NB216_215 := nbr BK215 hg; replace BK215 := bb BK215 hb; clear hb hg) | ((with_reducible refine gC 61 rfl ?_); refine gl_ 9 Tryz.func61 #[.int .i64 10] ?_; (with_reducible refine (uL.calls k 10 t217 t218 _ A3.out).mono ?_); rintro e w6 ⟨v219, rfl, ho0, hb⟩; refine ⟨_, rfl, ?_⟩; replace HO0_1 := zQ.mk (Kd.qJ (by (with_reducible repeat (first | apply Kd.V_alloc | apply Kd.V_drewN | apply Kd.zT)); exact HO0_1.out) hb); have HO220 := zQ.mk (Kd.xJ (Kd.zR (ok' := fun k_ => (P0_1_ k_ ∨ w.heap.size ≤ k_) ∧ k_ ≠ gb215 ∧ k_ ≠ gb216) ho0 (fun k_ hk_ => ⟨(.inr (Nat.le_trans (zy (zb w)) hk_)), (Kd.qH (g := gb215) (o := .cells #[.bool a0_0, .slice A0_1 l0_1.length c0_1] 96 (0, 0)) (zk BK215) k_ hk_), (Kd.qH (g := gb216) (o := .cells #[.int .i64 0, .int .i64 0] 33 (0, 0)) (zk BK216) k_ hk_)⟩)) (zy (zb w))); replace BK215 := bb BK215 hb; replace BK216 := bb BK216 hb; replace HB := hs w hb; (try clear hb); (try clear ho0)) | ((with_reducible refine gD 6 rfl ?_); refine jU ?hg (N := 6) ?hd (cs := #[.bool false, .slice none 0 0]) (t := 96) ?hr ?_; (case hd => rfl); (case hg => rfl); (case hr => first | (go_simp; done) | (go_simp; rfl)); intro gb221 hg w7 hbox hb; replace HO0_1 := zQ.mk (Kd.qJ (Kd.jK (by (with_reducible repeat (first | apply Kd.V_alloc | apply Kd.V_drewN | apply Kd.zT)); exact HO0_1.out) gb221 (Nat.le_of_eq hg.symm)) hb); replace HO220 := zQ.mk (Kd.qJ (Kd.jK (by (with_reducible repeat (first | apply Kd.V_alloc | apply Kd.V_drewN | apply Kd.zT)); exact HO220.out) gb221 (Nat.le_of_eq hg.symm)) hb); have BK221 := zQ.mk (hbox); have GW221 := zQ.mk ((by rw [hg]; exact (zy (zb w)) : w.heap.size ≤ gb221)); have GE221 := zQ.mk ((by rw [hg]; exact (zy (zb w)) : w.heap.size ≤ gb221)); replace HB := hs w hb; have NB215_221 := nbl BK215 hg; have NB221_215 := nbr BK215 hg; replace BK215 := bb BK215 hb; have NB216_221 := nbl BK216 hg; have NB221_216 := nbr BK216 hg; replace BK216 := bb BK216 hb; clear hb hg; have hnb8 := NB221_215.out; have hnc8 := NB215_221.out; have hnb9 := NB221_216.out; have hnc9 := NB216_221.out; obtain ⟨hcz10_0, hcz10_1, hfz10_0, hfz10_1⟩ := cz2 BK221; obtain ⟨Ao11, co11, eo11⟩ := Kd.jW HO220.out; subst eo11))
 try simp only [sq]
 go_loopg [1] k (fun kq v1 w' => ∃ (x1_1 : Int) (x216000_1 : Bool) (x216001_1 : List Int) (u216001 : Value), v1 = .int .i64 x1_1 ∧ zQ (jJ.l0 kq x1_1 x216000_1 x216001_1 t217 t218 = some (r1, r2, r3)) ∧ zQ (kq ≤ k) ∧ zQ (Kd.V (Kd.int .u32) 114 w' w.heap.size (fun k_ => (P0_1_ k_ ∨ w.heap.size ≤ k_) ∧ k_ ≠ gb215 ∧ k_ ≠ gb216 ∧ k_ ≠ gb221) u216001 x216001_1) ∧ zQ (Kd.V (Kd.int .u32) 114 w' w.heap.size (fun k_ => (P0_1_ k_ ∨ w.heap.size ≤ k_) ∧ k_ ≠ gb215 ∧ k_ ≠ gb216 ∧ k_ ≠ gb221) (.slice Ao11 t218.length co11) t218) ∧ zQ (w'.heap[gb215]? = some (.cells #[.bool x216000_1, u216001] 96 (0, 0))) ∧ zQ (w'.heap[gb216]? = some (.cells #[.int .i64 0, .int .i64 0] 33 (0, 0))) ∧ zQ (w'.heap[gb221]? = some (.cells #[.bool t217, (.slice Ao11 t218.length co11)] 96 (0, 0))) ∧ zQ (Below w.heap.size w w'))
 case atStart => exact ⟨(a1), (a0_0), (l0_1), (.slice A0_1 l0_1.length c0_1), ar, H', ⟨Nat.le_refl _⟩, ⟨by (with_reducible repeat (first | apply Kd.V_alloc | apply Kd.V_drewN | apply Kd.zT)); exact Kd.zR (Kd.qL (p := ⟨gb221, 1, none⟩) (Kd.qL (p := ⟨gb221, 0, none⟩) (Kd.zR HO0_1.out (fun k_ hk => (⟨hk, hk.2⟩ : _ ∧ k_ ≠ gb221))) (fun _ hk => hk.2) (.bool t217)) (fun _ hk => hk.2) (.slice Ao11 t218.length co11)) (fun _ hk => ⟨hk.1.1.1.1, ⟨hk.1.1.1.2, ⟨hk.1.1.2, hk.1.2⟩⟩⟩)⟩, ⟨by (with_reducible repeat (first | apply Kd.V_alloc | apply Kd.V_drewN | apply Kd.zT)); exact Kd.zR (Kd.qL (p := ⟨gb221, 1, none⟩) (Kd.qL (p := ⟨gb221, 0, none⟩) (Kd.zR HO220.out (fun k_ hk => (⟨hk, hk.2⟩ : _ ∧ k_ ≠ gb221))) (fun _ hk => hk.2) (.bool t217)) (fun _ hk => hk.2) (.slice Ao11 t218.length co11)) (fun _ hk => ⟨hk.1.1.1, ⟨hk.1.1.2.1, ⟨hk.1.1.2.2, hk.1.2⟩⟩⟩)⟩, ⟨by (with_reducible repeat (first | refine zJ ?_ _ | refine zK ?_ | refine zZ ?_ _)); refine zF ?_ NB215_221.out _; (with_reducible repeat (first | refine zJ ?_ _ | refine zK ?_ | refine zZ ?_ _)); refine zF ?_ NB215_221.out _; exact zk BK215⟩, ⟨by (with_reducible repeat (first | refine zJ ?_ _ | refine zK ?_ | refine zZ ?_ _)); refine zF ?_ NB216_221.out _; (with_reducible repeat (first | refine zJ ?_ _ | refine zK ?_ | refine zZ ?_ _)); refine zF ?_ NB216_221.out _; exact zk BK216⟩, ⟨by (with_reducible repeat (first | refine zJ ?_ _ | refine zK ?_ | refine zZ ?_ _)); refine zL (cs := #[.bool t217, .slice none 0 0]) ?_ 1 _ rfl; (with_reducible repeat (first | refine zJ ?_ _ | refine zK ?_ | refine zZ ?_ _)); refine zL (cs := #[.bool false, .slice none 0 0]) ?_ 0 _ rfl; exact zk BK221⟩, ⟨(zb w)⟩⟩
 case round =>
  clear H'
  try clear p2
  try clear c6
  try clear c8
  try clear c9
  try clear hcz10_0 hcz10_1 hfz10_0 hfz10_1
  obtain ⟨x1_1, x216000_1, x216001_1, u216001, rfl, HA, HK1, HO_216001, HO_222001, BK215, BK216, BK221, HB⟩ := hrel
  cases gk with
  | zero => exact absurd HA.out (by simp [jJ.l0])
  | succ k1 =>
   have H := HA.out
   clear HA
   simp only [jJ.l0] at H
   by_cases c12 : x1_1 > 0
   ·rw [if_pos c12] at H
    have c12b0 : decide (0 < x1_1) = true := decide_eq_true c12
    clear c12
    replace H := Option.bind_eq_some_iff.mp H
    obtain ⟨⟨t225, t226, t229, t230⟩, A130, H⟩ := H
    try dsimp only at H
    have A13 := zQ.mk A130
    clear A130
    replace H := Option.bind_eq_some_iff.mp H
    obtain ⟨t235, A140, H⟩ := H
    try dsimp only at H
    have A14 := zQ.mk A140
    clear A140
    by_cases c15 : t235 = 0
    ·rw [if_pos c15] at H
     have c15b0 : (t235 == 0) = true := beq_iff_eq.mpr c15
     have c15b1 : (t235 != 0) = false := bne_eq_false_iff_eq.mpr c15
     clear c15
     replace H := Option.bind_eq_some_iff.mp H
     obtain ⟨t239, A160, H⟩ := H
     try dsimp only at H
     have A16 := zQ.mk A160
     clear A160
     by_cases c17 : t239 < 0
     ·rw [if_pos c17] at H
      have c17b0 : decide (t239 < 0) = true := decide_eq_true c17
      clear c17
      replace H := Option.bind_eq_some_iff.mp H
      obtain ⟨⟨t240, t241⟩, A180, H⟩ := H
      try dsimp only at H
      have A18 := zQ.mk A180
      clear A180
      have H' := zQ.mk H
      clear H
      have hnb19 := NB215_216.out
      have hnc19 := NB216_215.out
      have hnb20 := NB215_221.out
      have hnc20 := NB221_215.out
      obtain ⟨hcz21_0, hcz21_1, hfz21_0, hfz21_1⟩ := cz2 BK215
      have hnb22 := NB221_216.out
      have hnc22 := NB216_221.out
      obtain ⟨hcz23_0, hcz23_1, hfz23_0, hfz23_1⟩ := cz2 BK221
      obtain ⟨Ao24, co24, eo24⟩ := Kd.jW HO_216001.out
      subst eo24
      go_wp2_with (first | ((with_reducible refine gC 78 rfl ?_); refine gl_ 15 Tryz.func78 #[.agg #[.bool x216000_1, .slice Ao24 x216001_1.length co24], .agg #[.bool t217, .slice Ao11 t218.length co11]] ?_; (with_reducible refine (zU.calls k1 x216000_1 _ _ x216001_1 t217 _ _ t218 t225 t226 t229 t230 _ ?side1 ?side2 ?side3 ?side4 A13.out).mono ?_); (case side1 => repeat (first | exact (Kd.qC HO_216001.out).2.2 | (with_reducible refine Kd.xK ?_ _) | (with_reducible refine Kd.xW ?_ _) | (with_reducible refine Kd.vK ?_))); (case side2 => exact (Kd.qC HO_216001.out).2.1); (case side3 => repeat (first | exact (Kd.qC HO_222001.out).2.2 | (with_reducible refine Kd.xK ?_ _) | (with_reducible refine Kd.xW ?_ _) | (with_reducible refine Kd.vK ?_))); (case side4 => exact (Kd.qC HO_222001.out).2.1); rintro e w25 ⟨v227, v231, rfl, ho0, ho1, hb⟩; refine ⟨_, rfl, ?_⟩; replace HO_216001 := zQ.mk (Kd.qJ (by (with_reducible repeat (first | apply Kd.V_alloc | apply Kd.V_drewN | apply Kd.zT)); exact HO_216001.out) hb); replace HO_222001 := zQ.mk (Kd.qJ (by (with_reducible repeat (first | apply Kd.V_alloc | apply Kd.V_drewN | apply Kd.zT)); exact HO_222001.out) hb); have HO228 := zQ.mk (Kd.xJ (Kd.zR (ok' := fun k_ => (P0_1_ k_ ∨ w.heap.size ≤ k_) ∧ k_ ≠ gb215 ∧ k_ ≠ gb216 ∧ k_ ≠ gb221) ho0 (fun k_ hk_ => ⟨(.inr (Nat.le_trans (zy (zb w)) hk_)), (Kd.qH (g := gb215) (o := .cells #[.bool x216000_1, .slice Ao24 x216001_1.length co24] 96 (0, 0)) (zk BK215) k_ hk_), (Kd.qH (g := gb216) (o := .cells #[.int .i64 0, .int .i64 0] 33 (0, 0)) (zk BK216) k_ hk_), (Kd.qH (g := gb221) (o := .cells #[.bool t217, .slice Ao11 t218.length co11] 96 (0, 0)) (zk BK221) k_ hk_)⟩)) (zy (zb w))); have HO232 := zQ.mk (Kd.xJ (Kd.zR (ok' := fun k_ => (P0_1_ k_ ∨ w.heap.size ≤ k_) ∧ k_ ≠ gb215 ∧ k_ ≠ gb216 ∧ k_ ≠ gb221) ho1 (fun k_ hk_ => ⟨(.inr (Nat.le_trans (zy (zb w)) hk_)), (Kd.qH (g := gb215) (o := .cells #[.bool x216000_1, .slice Ao24 x216001_1.length co24] 96 (0, 0)) (zk BK215) k_ hk_), (Kd.qH (g := gb216) (o := .cells #[.int .i64 0, .int .i64 0] 33 (0, 0)) (zk BK216) k_ hk_), (Kd.qH (g := gb221) (o := .cells #[.bool t217, .slice Ao11 t218.length co11] 96 (0, 0)) (zk BK221) k_ hk_)⟩)) (zy (zb w))); replace BK215 := bb BK215 hb; replace BK216 := bb BK216 hb; replace BK221 := bb BK221 hb; replace HB := hs w hb; (try clear hb); (try clear ho0); (try clear ho1)) | ((with_reducible refine gD 7 rfl ?_); refine jU ?hg (N := 7) ?hd (cs := #[.bool false, .slice none 0 0]) (t := 96) ?hr ?_; (case hd => rfl); (case hg => rfl); (case hr => first | (go_simp; done) | (go_simp; rfl)); intro gb233 hg w26 hbox hb; replace HO_216001 := zQ.mk (Kd.qJ (Kd.jK (by (with_reducible repeat (first | apply Kd.V_alloc | apply Kd.V_drewN | apply Kd.zT)); exact HO_216001.out) gb233 (Nat.le_of_eq hg.symm)) hb); replace HO_222001 := zQ.mk (Kd.qJ (Kd.jK (by (with_reducible repeat (first | apply Kd.V_alloc | apply Kd.V_drewN | apply Kd.zT)); exact HO_222001.out) gb233 (Nat.le_of_eq hg.symm)) hb); replace HO228 := zQ.mk (Kd.qJ (Kd.jK (by (with_reducible repeat (first | apply Kd.V_alloc | apply Kd.V_drewN | apply Kd.zT)); exact HO228.out) gb233 (Nat.le_of_eq hg.symm)) hb); replace HO232 := zQ.mk (Kd.qJ (Kd.jK (by (with_reducible repeat (first | apply Kd.V_alloc | apply Kd.V_drewN | apply Kd.zT)); exact HO232.out) gb233 (Nat.le_of_eq hg.symm)) hb); have BK233 := zQ.mk (hbox); have GW233 := zQ.mk ((by rw [hg]; exact (zy (zb w)) : w.heap.size ≤ gb233)); have GE233 := zQ.mk ((by rw [hg]; exact (zy (zb w)) : w.heap.size ≤ gb233)); replace HB := hs w hb; have NB215_233 := nbl BK215 hg; have NB233_215 := nbr BK215 hg; replace BK215 := bb BK215 hb; have NB216_233 := nbl BK216 hg; have NB233_216 := nbr BK216 hg; replace BK216 := bb BK216 hb; have NB221_233 := nbl BK221 hg; have NB233_221 := nbr BK221 hg; replace BK221 := bb BK221 hb; clear hb hg) | ((with_reducible refine gD 8 rfl ?_); refine jU ?hg (N := 8) ?hd (cs := #[.bool false, .slice none 0 0]) (t := 96) ?hr ?_; (case hd => rfl); (case hg => rfl); (case hr => first | (go_simp; done) | (go_simp; rfl)); intro gb234 hg w27 hbox hb; replace HO_216001 := zQ.mk (Kd.qJ (Kd.jK (by (with_reducible repeat (first | apply Kd.V_alloc | apply Kd.V_drewN | apply Kd.zT)); exact HO_216001.out) gb234 (Nat.le_of_eq hg.symm)) hb); replace HO_222001 := zQ.mk (Kd.qJ (Kd.jK (by (with_reducible repeat (first | apply Kd.V_alloc | apply Kd.V_drewN | apply Kd.zT)); exact HO_222001.out) gb234 (Nat.le_of_eq hg.symm)) hb); replace HO228 := zQ.mk (Kd.qJ (Kd.jK (by (with_reducible repeat (first | apply Kd.V_alloc | apply Kd.V_drewN | apply Kd.zT)); exact HO228.out) gb234 (Nat.le_of_eq hg.symm)) hb); replace HO232 := zQ.mk (Kd.qJ (Kd.jK (by (with_reducible repeat (first | apply Kd.V_alloc | apply Kd.V_drewN | apply Kd.zT)); exact HO232.out) gb234 (Nat.le_of_eq hg.symm)) hb); have BK234 := zQ.mk (hbox); have GW234 := zQ.mk ((by rw [hg]; exact (zy (zb w)) : w.heap.size ≤ gb234)); have GE234 := zQ.mk ((by rw [hg]; exact (zy (zb w)) : w.heap.size ≤ gb234)); replace HB := hs w hb; have NB215_234 := nbl BK215 hg; have NB234_215 := nbr BK215 hg; replace BK215 := bb BK215 hb; have NB216_234 := nbl BK216 hg; have NB234_216 := nbr BK216 hg; replace BK216 := bb BK216 hb; have NB221_234 := nbl BK221 hg; have NB234_221 := nbr BK221 hg; replace BK221 := bb BK221 hb; have NB233_234 := nbl BK233 hg; have NB234_233 := nbr BK233 hg; replace BK233 := bb BK233 hb; clear hb hg; have hnb28 := NB233_215.out; have hnc28 := NB215_233.out; have hnb29 := NB233_216.out; have hnc29 := NB216_233.out; have hnb30 := NB233_221.out; have hnc30 := NB221_233.out; have hnb31 := NB233_234.out; have hnc31 := NB234_233.out; obtain ⟨hcz32_0, hcz32_1, hfz32_0, hfz32_1⟩ := cz2 BK233; obtain ⟨Ao33, co33, eo33⟩ := Kd.jW HO228.out; subst eo33; have hnb34 := NB234_215.out; have hnc34 := NB215_234.out; have hnb35 := NB234_216.out; have hnc35 := NB216_234.out; have hnb36 := NB234_221.out; have hnc36 := NB221_234.out; obtain ⟨hcz37_0, hcz37_1, hfz37_0, hfz37_1⟩ := cz2 BK234; obtain ⟨Ao38, co38, eo38⟩ := Kd.jW HO232.out; subst eo38) | ((with_reducible refine gC 79 rfl ?_); refine gl_ 19 Tryz.func79 #[.agg #[.bool t229, .slice Ao38 t230.length co38]] ?_; (with_reducible refine (jS.calls t229 _ _ t230 t235 _ ?side1 ?side2 A14.out).mono ?_); (case side1 => refine (Kd.qC (e := 114) (base := w.heap.size) (ok := fun k_ => ((((P0_1_ k_ ∨ w.heap.size ≤ k_) ∧ (k_ ≠ gb215 ∧ (k_ ≠ gb216 ∧ k_ ≠ gb221))) ∧ k_ ≠ gb233) ∧ k_ ≠ gb234)) (n := t230.length) (c := co38) ?_).2.2; exact (by (with_reducible repeat (first | apply Kd.V_alloc | apply Kd.V_drewN | apply Kd.zT)); exact (Kd.zR (Kd.zR (Kd.qL (p := ⟨gb234, 1, none⟩) (Kd.qL (p := ⟨gb234, 0, none⟩) (Kd.qL (p := ⟨gb233, 1, none⟩) (Kd.qL (p := ⟨gb233, 0, none⟩) (Kd.zR (Kd.zR HO232.out (fun k_ hk => (⟨hk, hk.1.2⟩ : _ ∧ k_ ≠ gb233))) (fun k_ hk => (⟨hk, hk.1.2⟩ : _ ∧ k_ ≠ gb234))) (fun _ hk => hk.1.2) (.bool t225)) (fun _ hk => hk.1.2) (.slice Ao33 t226.length co33)) (fun _ hk => hk.2) (.bool t229)) (fun _ hk => hk.2) (.slice Ao38 t230.length co38)) (fun _ h_ => h_.1)) (fun _ h_ => h_.1)))); (case side2 => exact (Kd.qC HO232.out).2.1); rintro e w39 ⟨rfl, hb⟩; refine ⟨_, rfl, ?_⟩; replace HO_216001 := zQ.mk (Kd.qJ (by (with_reducible repeat (first | apply Kd.V_alloc | apply Kd.V_drewN | apply Kd.zT)); exact (Kd.zR (Kd.zR (Kd.qL (p := ⟨gb234, 1, none⟩) (Kd.qL (p := ⟨gb234, 0, none⟩) (Kd.qL (p := ⟨gb233, 1, none⟩) (Kd.qL (p := ⟨gb233, 0, none⟩) (Kd.zR (Kd.zR HO_216001.out (fun k_ hk => (⟨hk, hk.1.2⟩ : _ ∧ k_ ≠ gb233))) (fun k_ hk => (⟨hk, hk.1.2⟩ : _ ∧ k_ ≠ gb234))) (fun _ hk => hk.1.2) (.bool t225)) (fun _ hk => hk.1.2) (.slice Ao33 t226.length co33)) (fun _ hk => hk.2) (.bool t229)) (fun _ hk => hk.2) (.slice Ao38 t230.length co38)) (fun _ h_ => h_.1)) (fun _ h_ => h_.1))) hb); replace HO_222001 := zQ.mk (Kd.qJ (by (with_reducible repeat (first | apply Kd.V_alloc | apply Kd.V_drewN | apply Kd.zT)); exact (Kd.zR (Kd.zR (Kd.qL (p := ⟨gb234, 1, none⟩) (Kd.qL (p := ⟨gb234, 0, none⟩) (Kd.qL (p := ⟨gb233, 1, none⟩) (Kd.qL (p := ⟨gb233, 0, none⟩) (Kd.zR (Kd.zR HO_222001.out (fun k_ hk => (⟨hk, hk.1.2⟩ : _ ∧ k_ ≠ gb233))) (fun k_ hk => (⟨hk, hk.1.2⟩ : _ ∧ k_ ≠ gb234))) (fun _ hk => hk.1.2) (.bool t225)) (fun _ hk => hk.1.2) (.slice Ao33 t226.length co33)) (fun _ hk => hk.2) (.bool t229)) (fun _ hk => hk.2) (.slice Ao38 t230.length co38)) (fun _ h_ => h_.1)) (fun _ h_ => h_.1))) hb); replace HO228 := zQ.mk (Kd.qJ (by (with_reducible repeat (first | apply Kd.V_alloc | apply Kd.V_drewN | apply Kd.zT)); exact (Kd.zR (Kd.zR (Kd.qL (p := ⟨gb234, 1, none⟩) (Kd.qL (p := ⟨gb234, 0, none⟩) (Kd.qL (p := ⟨gb233, 1, none⟩) (Kd.qL (p := ⟨gb233, 0, none⟩) (Kd.zR (Kd.zR HO228.out (fun k_ hk => (⟨hk, hk.1.2⟩ : _ ∧ k_ ≠ gb233))) (fun k_ hk => (⟨hk, hk.1.2⟩ : _ ∧ k_ ≠ gb234))) (fun _ hk => hk.1.2) (.bool t225)) (fun _ hk => hk.1.2) (.slice Ao33 t226.length co33)) (fun _ hk => hk.2) (.bool t229)) (fun _ hk => hk.2) (.slice Ao38 t230.length co38)) (fun _ h_ => h_.1)) (fun _ h_ => h_.1))) hb); replace HO232 := zQ.mk (Kd.qJ (by (with_reducible repeat (first | apply Kd.V_alloc | apply Kd.V_drewN | apply Kd.zT)); exact (Kd.zR (Kd.zR (Kd.qL (p := ⟨gb234, 1, none⟩) (Kd.qL (p := ⟨gb234, 0, none⟩) (Kd.qL (p := ⟨gb233, 1, none⟩) (Kd.qL (p := ⟨gb233, 0, none⟩) (Kd.zR (Kd.zR HO232.out (fun k_ hk => (⟨hk, hk.1.2⟩ : _ ∧ k_ ≠ gb233))) (fun k_ hk => (⟨hk, hk.1.2⟩ : _ ∧ k_ ≠ gb234))) (fun _ hk => hk.1.2) (.bool t225)) (fun _ hk => hk.1.2) (.slice Ao33 t226.length co33)) (fun _ hk => hk.2) (.bool t229)) (fun _ hk => hk.2) (.slice Ao38 t230.length co38)) (fun _ h_ => h_.1)) (fun _ h_ => h_.1))) hb); replace BK215 := zQ.mk (qV (g := gb215) (o := .cells #[.bool x216000_1, .slice Ao24 x216001_1.length co24] 96 (0, 0)) (by (with_reducible repeat (first | refine zJ ?_ _ | refine zK ?_ | refine zZ ?_ _)); refine zF ?_ NB215_234.out _; (with_reducible repeat (first | refine zJ ?_ _ | refine zK ?_ | refine zZ ?_ _)); refine zF ?_ NB215_234.out _; (with_reducible repeat (first | refine zJ ?_ _ | refine zK ?_ | refine zZ ?_ _)); refine zF ?_ NB215_233.out _; (with_reducible repeat (first | refine zJ ?_ _ | refine zK ?_ | refine zZ ?_ _)); refine zF ?_ NB215_233.out _; exact zk BK215) hb); replace BK216 := zQ.mk (qV (g := gb216) (o := .cells #[.int .i64 0, .int .i64 0] 33 (0, 0)) (by (with_reducible repeat (first | refine zJ ?_ _ | refine zK ?_ | refine zZ ?_ _)); refine zF ?_ NB216_234.out _; (with_reducible repeat (first | refine zJ ?_ _ | refine zK ?_ | refine zZ ?_ _)); refine zF ?_ NB216_234.out _; (with_reducible repeat (first | refine zJ ?_ _ | refine zK ?_ | refine zZ ?_ _)); refine zF ?_ NB216_233.out _; (with_reducible repeat (first | refine zJ ?_ _ | refine zK ?_ | refine zZ ?_ _)); refine zF ?_ NB216_233.out _; exact zk BK216) hb); replace BK221 := zQ.mk (qV (g := gb221) (o := .cells #[.bool t217, .slice Ao11 t218.length co11] 96 (0, 0)) (by (with_reducible repeat (first | refine zJ ?_ _ | refine zK ?_ | refine zZ ?_ _)); refine zF ?_ NB221_234.out _; (with_reducible repeat (first | refine zJ ?_ _ | refine zK ?_ | refine zZ ?_ _)); refine zF ?_ NB221_234.out _; (with_reducible repeat (first | refine zJ ?_ _ | refine zK ?_ | refine zZ ?_ _)); refine zF ?_ NB221_233.out _; (with_reducible repeat (first | refine zJ ?_ _ | refine zK ?_ | refine zZ ?_ _)); refine zF ?_ NB221_233.out _; exact zk BK221) hb); replace BK233 := zQ.mk (qV (g := gb233) (o := .cells #[.bool t225, .slice Ao33 t226.length co33] 96 (0, 0)) (by (with_reducible repeat (first | refine zJ ?_ _ | refine zK ?_ | refine zZ ?_ _)); refine zF ?_ NB233_234.out _; (with_reducible repeat (first | refine zJ ?_ _ | refine zK ?_ | refine zZ ?_ _)); refine zF ?_ NB233_234.out _; (with_reducible repeat (first | refine zJ ?_ _ | refine zK ?_ | refine zZ ?_ _)); refine zL (cs := #[.bool t225, .slice none 0 0]) ?_ 1 _ rfl; (with_reducible repeat (first | refine zJ ?_ _ | refine zK ?_ | refine zZ ?_ _)); refine zL (cs := #[.bool false, .slice none 0 0]) ?_ 0 _ rfl; exact zk BK233) hb); replace BK234 := zQ.mk (qV (g := gb234) (o := .cells #[.bool t229, .slice Ao38 t230.length co38] 96 (0, 0)) (by (with_reducible repeat (first | refine zJ ?_ _ | refine zK ?_ | refine zZ ?_ _)); refine zL (cs := #[.bool t229, .slice none 0 0]) ?_ 1 _ rfl; (with_reducible repeat (first | refine zJ ?_ _ | refine zK ?_ | refine zZ ?_ _)); refine zL (cs := #[.bool false, .slice none 0 0]) ?_ 0 _ rfl; (with_reducible repeat (first | refine zJ ?_ _ | refine zK ?_ | refine zZ ?_ _)); refine zF ?_ NB234_233.out _; (with_reducible repeat (first | refine zJ ?_ _ | refine zK ?_ | refine zZ ?_ _)); refine zF ?_ NB234_233.out _; exact zk BK234) hb); replace HB := hs w hb; (try clear hb); obtain ⟨hcz40_0, hcz40_1, hfz40_0, hfz40_1⟩ := cz2 BK215) | ((with_reducible refine gC 79 rfl ?_); refine gl_ 22 Tryz.func79 #[.agg #[.bool x216000_1, .slice Ao24 x216001_1.length co24]] ?_; (with_reducible refine (jS.calls x216000_1 _ _ x216001_1 t239 _ ?side1 ?side2 A16.out).mono ?_); (case side1 => repeat (first | exact (Kd.qC HO_216001.out).2.2 | (with_reducible refine Kd.xK ?_ _) | (with_reducible refine Kd.xW ?_ _) | (with_reducible refine Kd.vK ?_))); (case side2 => exact (Kd.qC HO_216001.out).2.1); rintro e w41 ⟨rfl, hb⟩; refine ⟨_, rfl, ?_⟩; replace HO_216001 := zQ.mk (Kd.qJ (by (with_reducible repeat (first | apply Kd.V_alloc | apply Kd.V_drewN | apply Kd.zT)); exact HO_216001.out) hb); replace HO_222001 := zQ.mk (Kd.qJ (by (with_reducible repeat (first | apply Kd.V_alloc | apply Kd.V_drewN | apply Kd.zT)); exact HO_222001.out) hb); replace HO228 := zQ.mk (Kd.qJ (by (with_reducible repeat (first | apply Kd.V_alloc | apply Kd.V_drewN | apply Kd.zT)); exact HO228.out) hb); replace HO232 := zQ.mk (Kd.qJ (by (with_reducible repeat (first | apply Kd.V_alloc | apply Kd.V_drewN | apply Kd.zT)); exact HO232.out) hb); replace BK215 := bb BK215 hb; replace BK216 := bb BK216 hb; replace BK221 := bb BK221 hb; replace BK233 := bb BK233 hb; replace BK234 := bb BK234 hb; replace HB := hs w hb; (try clear hb); obtain ⟨hcz42_0, hcz42_1, hfz42_0, hfz42_1⟩ := cz2 BK233) | ((with_reducible refine gC 80 rfl ?_); refine gl_ 25 Tryz.func80 #[.agg #[.bool t225, .slice Ao33 t226.length co33]] ?_; (with_reducible refine (yV.calls k1 t225 (fun k_ => ((((P0_1_ k_ ∨ w.heap.size ≤ k_) ∧ (k_ ≠ gb215 ∧ (k_ ≠ gb216 ∧ k_ ≠ gb221))) ∧ k_ ≠ gb233) ∧ k_ ≠ gb234)) _ _ t226 t240 t241 _ HO228.out A18.out).mono ?_); rintro e w43 ⟨v242, rfl, ho0, hb⟩; refine ⟨_, rfl, ?_⟩; replace HO_216001 := zQ.mk (Kd.qJ (by (with_reducible repeat (first | apply Kd.V_alloc | apply Kd.V_drewN | apply Kd.zT)); exact HO_216001.out) hb); replace HO_222001 := zQ.mk (Kd.qJ (by (with_reducible repeat (first | apply Kd.V_alloc | apply Kd.V_drewN | apply Kd.zT)); exact HO_222001.out) hb); replace HO228 := zQ.mk (Kd.qJ (by (with_reducible repeat (first | apply Kd.V_alloc | apply Kd.V_drewN | apply Kd.zT)); exact HO228.out) hb); replace HO232 := zQ.mk (Kd.qJ (by (with_reducible repeat (first | apply Kd.V_alloc | apply Kd.V_drewN | apply Kd.zT)); exact HO232.out) hb); have HO243 := zQ.mk (Kd.xJ (Kd.zR (ok' := fun k_ => (P0_1_ k_ ∨ w.heap.size ≤ k_) ∧ k_ ≠ gb215 ∧ k_ ≠ gb216 ∧ k_ ≠ gb221 ∧ k_ ≠ gb233 ∧ k_ ≠ gb234) ho0 (fun k_ hk_ => ⟨Or.elim hk_ (fun hs_ => hs_.1.1.1) (fun hn_ => (.inr (Nat.le_trans (zy (zb w)) hn_))), Or.elim hk_ (fun hs_ => hs_.1.1.2.1) (fun hn_ => (Kd.qH (g := gb215) (o := .cells #[.bool x216000_1, .slice Ao24 x216001_1.length co24] 96 (0, 0)) (zk BK215) k_ hn_)), Or.elim hk_ (fun hs_ => hs_.1.1.2.2.1) (fun hn_ => (Kd.qH (g := gb216) (o := .cells #[.int .i64 0, .int .i64 0] 33 (0, 0)) (zk BK216) k_ hn_)), Or.elim hk_ (fun hs_ => hs_.1.1.2.2.2) (fun hn_ => (Kd.qH (g := gb221) (o := .cells #[.bool t217, .slice Ao11 t218.length co11] 96 (0, 0)) (zk BK221) k_ hn_)), Or.elim hk_ (fun hs_ => hs_.1.2) (fun hn_ => (Kd.qH (g := gb233) (o := .cells #[.bool t225, .slice Ao33 t226.length co33] 96 (0, 0)) (zk BK233) k_ hn_)), Or.elim hk_ (fun hs_ => hs_.2) (fun hn_ => (Kd.qH (g := gb234) (o := .cells #[.bool t229, .slice Ao38 t230.length co38] 96 (0, 0)) (zk BK234) k_ hn_))⟩)) (zy (zb w))); replace BK215 := bb BK215 hb; replace BK216 := bb BK216 hb; replace BK221 := bb BK221 hb; replace BK233 := bb BK233 hb; replace BK234 := bb BK234 hb; replace HB := hs w hb; (try clear hb); (try clear ho0); obtain ⟨hcz44_0, hcz44_1, hfz44_0, hfz44_1⟩ := cz2 BK233; obtain ⟨Ao45, co45, eo45⟩ := Kd.jW HO243.out; subst eo45; obtain ⟨hcz46_0, hcz46_1, hfz46_0, hfz46_1⟩ := cz2 BK215))
      go_roundg k1
      case measure => have := HK1.out; omega
      case rel => exact ⟨(wrap64 (x1_1 - 1)), (t240), (t241), (.slice Ao45 t241.length co45), ar, H', ⟨by have := HK1.out; omega⟩, ⟨by (with_reducible repeat (first | apply Kd.V_alloc | apply Kd.V_drewN | apply Kd.zT)); exact Kd.zR (Kd.qL (p := ⟨gb215, 1, none⟩) (Kd.qL (p := ⟨gb215, 0, none⟩) (Kd.qL (p := ⟨gb233, 1, none⟩) (Kd.qL (p := ⟨gb233, 0, none⟩) (Kd.zR (Kd.zR HO243.out (fun k_ hk => (⟨hk, hk.2.2.2.2.1⟩ : _ ∧ k_ ≠ gb233))) (fun k_ hk => (⟨hk, hk.1.2.1⟩ : _ ∧ k_ ≠ gb215))) (fun _ hk => hk.1.2) (.bool t240)) (fun _ hk => hk.1.2) (.slice Ao45 t241.length co45)) (fun _ hk => hk.2) (.bool t240)) (fun _ hk => hk.2) (.slice Ao45 t241.length co45)) (fun _ hk => ⟨hk.1.1.1, ⟨hk.1.1.2.1, ⟨hk.1.1.2.2.1, hk.1.1.2.2.2.1⟩⟩⟩)⟩, ⟨by (with_reducible repeat (first | apply Kd.V_alloc | apply Kd.V_drewN | apply Kd.zT)); exact Kd.zR (Kd.qL (p := ⟨gb215, 1, none⟩) (Kd.qL (p := ⟨gb215, 0, none⟩) (Kd.qL (p := ⟨gb233, 1, none⟩) (Kd.qL (p := ⟨gb233, 0, none⟩) (Kd.zR (Kd.zR HO_222001.out (fun k_ hk => (⟨hk, hk.1.2⟩ : _ ∧ k_ ≠ gb233))) (fun k_ hk => (⟨hk, hk.1.1.1.2.1⟩ : _ ∧ k_ ≠ gb215))) (fun _ hk => hk.1.2) (.bool t240)) (fun _ hk => hk.1.2) (.slice Ao45 t241.length co45)) (fun _ hk => hk.2) (.bool t240)) (fun _ hk => hk.2) (.slice Ao45 t241.length co45)) (fun _ hk => ⟨hk.1.1.1.1.1, ⟨hk.1.1.1.1.2.1, ⟨hk.1.1.1.1.2.2.1, hk.1.1.1.1.2.2.2⟩⟩⟩)⟩, ⟨by (with_reducible repeat (first | refine zJ ?_ _ | refine zK ?_ | refine zZ ?_ _)); refine zL (cs := #[.bool t240, .slice Ao24 x216001_1.length co24]) ?_ 1 _ rfl; (with_reducible repeat (first | refine zJ ?_ _ | refine zK ?_ | refine zZ ?_ _)); refine zL (cs := #[.bool x216000_1, .slice Ao24 x216001_1.length co24]) ?_ 0 _ rfl; (with_reducible repeat (first | refine zJ ?_ _ | refine zK ?_ | refine zZ ?_ _)); refine zF ?_ NB215_233.out _; (with_reducible repeat (first | refine zJ ?_ _ | refine zK ?_ | refine zZ ?_ _)); refine zF ?_ NB215_233.out _; exact zk BK215⟩, ⟨by (with_reducible repeat (first | refine zJ ?_ _ | refine zK ?_ | refine zZ ?_ _)); refine zF ?_ NB216_215.out _; (with_reducible repeat (first | refine zJ ?_ _ | refine zK ?_ | refine zZ ?_ _)); refine zF ?_ NB216_215.out _; (with_reducible repeat (first | refine zJ ?_ _ | refine zK ?_ | refine zZ ?_ _)); refine zF ?_ NB216_233.out _; (with_reducible repeat (first | refine zJ ?_ _ | refine zK ?_ | refine zZ ?_ _)); refine zF ?_ NB216_233.out _; exact zk BK216⟩, ⟨by (with_reducible repeat (first | refine zJ ?_ _ | refine zK ?_ | refine zZ ?_ _)); refine zF ?_ NB221_215.out _; (with_reducible repeat (first | refine zJ ?_ _ | refine zK ?_ | refine zZ ?_ _)); refine zF ?_ NB221_215.out _; (with_reducible repeat (first | refine zJ ?_ _ | refine zK ?_ | refine zZ ?_ _)); refine zF ?_ NB221_233.out _; (with_reducible repeat (first | refine zJ ?_ _ | refine zK ?_ | refine zZ ?_ _)); refine zF ?_ NB221_233.out _; exact zk BK221⟩, ⟨(zb w)⟩⟩
     ·rw [if_neg c17] at H
      have c17b0 : decide (t239 < 0) = false := decide_eq_false c17
      clear c17
      have H' := zQ.mk H
      clear H
      have hnb47 := NB215_216.out
      have hnc47 := NB216_215.out
      have hnb48 := NB215_221.out
      have hnc48 := NB221_215.out
      obtain ⟨hcz49_0, hcz49_1, hfz49_0, hfz49_1⟩ := cz2 BK215
      have hnb50 := NB221_216.out
      have hnc50 := NB216_221.out
      obtain ⟨hcz51_0, hcz51_1, hfz51_0, hfz51_1⟩ := cz2 BK221
      obtain ⟨Ao52, co52, eo52⟩ := Kd.jW HO_216001.out
      subst eo52
      go_wp2_with (first | ((with_reducible refine gC 78 rfl ?_); refine gl_ 15 Tryz.func78 #[.agg #[.bool x216000_1, .slice Ao52 x216001_1.length co52], .agg #[.bool t217, .slice Ao11 t218.length co11]] ?_; (with_reducible refine (zU.calls k1 x216000_1 _ _ x216001_1 t217 _ _ t218 t225 t226 t229 t230 _ ?side1 ?side2 ?side3 ?side4 A13.out).mono ?_); (case side1 => repeat (first | exact (Kd.qC HO_216001.out).2.2 | (with_reducible refine Kd.xK ?_ _) | (with_reducible refine Kd.xW ?_ _) | (with_reducible refine Kd.vK ?_))); (case side2 => exact (Kd.qC HO_216001.out).2.1); (case side3 => repeat (first | exact (Kd.qC HO_222001.out).2.2 | (with_reducible refine Kd.xK ?_ _) | (with_reducible refine Kd.xW ?_ _) | (with_reducible refine Kd.vK ?_))); (case side4 => exact (Kd.qC HO_222001.out).2.1); rintro e w53 ⟨v227, v231, rfl, ho0, ho1, hb⟩; refine ⟨_, rfl, ?_⟩; replace HO_216001 := zQ.mk (Kd.qJ (by (with_reducible repeat (first | apply Kd.V_alloc | apply Kd.V_drewN | apply Kd.zT)); exact HO_216001.out) hb); replace HO_222001 := zQ.mk (Kd.qJ (by (with_reducible repeat (first | apply Kd.V_alloc | apply Kd.V_drewN | apply Kd.zT)); exact HO_222001.out) hb); have HO228 := zQ.mk (Kd.xJ (Kd.zR (ok' := fun k_ => (P0_1_ k_ ∨ w.heap.size ≤ k_) ∧ k_ ≠ gb215 ∧ k_ ≠ gb216 ∧ k_ ≠ gb221) ho0 (fun k_ hk_ => ⟨(.inr (Nat.le_trans (zy (zb w)) hk_)), (Kd.qH (g := gb215) (o := .cells #[.bool x216000_1, .slice Ao52 x216001_1.length co52] 96 (0, 0)) (zk BK215) k_ hk_), (Kd.qH (g := gb216) (o := .cells #[.int .i64 0, .int .i64 0] 33 (0, 0)) (zk BK216) k_ hk_), (Kd.qH (g := gb221) (o := .cells #[.bool t217, .slice Ao11 t218.length co11] 96 (0, 0)) (zk BK221) k_ hk_)⟩)) (zy (zb w))); have HO232 := zQ.mk (Kd.xJ (Kd.zR (ok' := fun k_ => (P0_1_ k_ ∨ w.heap.size ≤ k_) ∧ k_ ≠ gb215 ∧ k_ ≠ gb216 ∧ k_ ≠ gb221) ho1 (fun k_ hk_ => ⟨(.inr (Nat.le_trans (zy (zb w)) hk_)), (Kd.qH (g := gb215) (o := .cells #[.bool x216000_1, .slice Ao52 x216001_1.length co52] 96 (0, 0)) (zk BK215) k_ hk_), (Kd.qH (g := gb216) (o := .cells #[.int .i64 0, .int .i64 0] 33 (0, 0)) (zk BK216) k_ hk_), (Kd.qH (g := gb221) (o := .cells #[.bool t217, .slice Ao11 t218.length co11] 96 (0, 0)) (zk BK221) k_ hk_)⟩)) (zy (zb w))); replace BK215 := bb BK215 hb; replace BK216 := bb BK216 hb; replace BK221 := bb BK221 hb; replace HB := hs w hb; (try clear hb); (try clear ho0); (try clear ho1)) | ((with_reducible refine gD 7 rfl ?_); refine jU ?hg (N := 7) ?hd (cs := #[.bool false, .slice none 0 0]) (t := 96) ?hr ?_; (case hd => rfl); (case hg => rfl); (case hr => first | (go_simp; done) | (go_simp; rfl)); intro gb233 hg w54 hbox hb; replace HO_216001 := zQ.mk (Kd.qJ (Kd.jK (by (with_reducible repeat (first | apply Kd.V_alloc | apply Kd.V_drewN | apply Kd.zT)); exact HO_216001.out) gb233 (Nat.le_of_eq hg.symm)) hb); replace HO_222001 := zQ.mk (Kd.qJ (Kd.jK (by (with_reducible repeat (first | apply Kd.V_alloc | apply Kd.V_drewN | apply Kd.zT)); exact HO_222001.out) gb233 (Nat.le_of_eq hg.symm)) hb); replace HO228 := zQ.mk (Kd.qJ (Kd.jK (by (with_reducible repeat (first | apply Kd.V_alloc | apply Kd.V_drewN | apply Kd.zT)); exact HO228.out) gb233 (Nat.le_of_eq hg.symm)) hb); replace HO232 := zQ.mk (Kd.qJ (Kd.jK (by (with_reducible repeat (first | apply Kd.V_alloc | apply Kd.V_drewN | apply Kd.zT)); exact HO232.out) gb233 (Nat.le_of_eq hg.symm)) hb); have BK233 := zQ.mk (hbox); have GW233 := zQ.mk ((by rw [hg]; exact (zy (zb w)) : w.heap.size ≤ gb233)); have GE233 := zQ.mk ((by rw [hg]; exact (zy (zb w)) : w.heap.size ≤ gb233)); replace HB := hs w hb; have NB215_233 := nbl BK215 hg; have NB233_215 := nbr BK215 hg; replace BK215 := bb BK215 hb; have NB216_233 := nbl BK216 hg; have NB233_216 := nbr BK216 hg; replace BK216 := bb BK216 hb; have NB221_233 := nbl BK221 hg; have NB233_221 := nbr BK221 hg; replace BK221 := bb BK221 hb; clear hb hg) | ((with_reducible refine gD 8 rfl ?_); refine jU ?hg (N := 8) ?hd (cs := #[.bool false, .slice none 0 0]) (t := 96) ?hr ?_; (case hd => rfl); (case hg => rfl); (case hr => first | (go_simp; done) | (go_simp; rfl)); intro gb234 hg w55 hbox hb; replace HO_216001 := zQ.mk (Kd.qJ (Kd.jK (by (with_reducible repeat (first | apply Kd.V_alloc | apply Kd.V_drewN | apply Kd.zT)); exact HO_216001.out) gb234 (Nat.le_of_eq hg.symm)) hb); replace HO_222001 := zQ.mk (Kd.qJ (Kd.jK (by (with_reducible repeat (first | apply Kd.V_alloc | apply Kd.V_drewN | apply Kd.zT)); exact HO_222001.out) gb234 (Nat.le_of_eq hg.symm)) hb); replace HO228 := zQ.mk (Kd.qJ (Kd.jK (by (with_reducible repeat (first | apply Kd.V_alloc | apply Kd.V_drewN | apply Kd.zT)); exact HO228.out) gb234 (Nat.le_of_eq hg.symm)) hb); replace HO232 := zQ.mk (Kd.qJ (Kd.jK (by (with_reducible repeat (first | apply Kd.V_alloc | apply Kd.V_drewN | apply Kd.zT)); exact HO232.out) gb234 (Nat.le_of_eq hg.symm)) hb); have BK234 := zQ.mk (hbox); have GW234 := zQ.mk ((by rw [hg]; exact (zy (zb w)) : w.heap.size ≤ gb234)); have GE234 := zQ.mk ((by rw [hg]; exact (zy (zb w)) : w.heap.size ≤ gb234)); replace HB := hs w hb; have NB215_234 := nbl BK215 hg; have NB234_215 := nbr BK215 hg; replace BK215 := bb BK215 hb; have NB216_234 := nbl BK216 hg; have NB234_216 := nbr BK216 hg; replace BK216 := bb BK216 hb; have NB221_234 := nbl BK221 hg; have NB234_221 := nbr BK221 hg; replace BK221 := bb BK221 hb; have NB233_234 := nbl BK233 hg; have NB234_233 := nbr BK233 hg; replace BK233 := bb BK233 hb; clear hb hg; have hnb56 := NB233_215.out; have hnc56 := NB215_233.out; have hnb57 := NB233_216.out; have hnc57 := NB216_233.out; have hnb58 := NB233_221.out; have hnc58 := NB221_233.out; have hnb59 := NB233_234.out; have hnc59 := NB234_233.out; obtain ⟨hcz60_0, hcz60_1, hfz60_0, hfz60_1⟩ := cz2 BK233; obtain ⟨Ao61, co61, eo61⟩ := Kd.jW HO228.out; subst eo61; have hnb62 := NB234_215.out; have hnc62 := NB215_234.out; have hnb63 := NB234_216.out; have hnc63 := NB216_234.out; have hnb64 := NB234_221.out; have hnc64 := NB221_234.out; obtain ⟨hcz65_0, hcz65_1, hfz65_0, hfz65_1⟩ := cz2 BK234; obtain ⟨Ao66, co66, eo66⟩ := Kd.jW HO232.out; subst eo66) | ((with_reducible refine gC 79 rfl ?_); refine gl_ 19 Tryz.func79 #[.agg #[.bool t229, .slice Ao66 t230.length co66]] ?_; (with_reducible refine (jS.calls t229 _ _ t230 t235 _ ?side1 ?side2 A14.out).mono ?_); (case side1 => refine (Kd.qC (e := 114) (base := w.heap.size) (ok := fun k_ => ((((P0_1_ k_ ∨ w.heap.size ≤ k_) ∧ (k_ ≠ gb215 ∧ (k_ ≠ gb216 ∧ k_ ≠ gb221))) ∧ k_ ≠ gb233) ∧ k_ ≠ gb234)) (n := t230.length) (c := co66) ?_).2.2; exact (by (with_reducible repeat (first | apply Kd.V_alloc | apply Kd.V_drewN | apply Kd.zT)); exact (Kd.zR (Kd.zR (Kd.qL (p := ⟨gb234, 1, none⟩) (Kd.qL (p := ⟨gb234, 0, none⟩) (Kd.qL (p := ⟨gb233, 1, none⟩) (Kd.qL (p := ⟨gb233, 0, none⟩) (Kd.zR (Kd.zR HO232.out (fun k_ hk => (⟨hk, hk.1.2⟩ : _ ∧ k_ ≠ gb233))) (fun k_ hk => (⟨hk, hk.1.2⟩ : _ ∧ k_ ≠ gb234))) (fun _ hk => hk.1.2) (.bool t225)) (fun _ hk => hk.1.2) (.slice Ao61 t226.length co61)) (fun _ hk => hk.2) (.bool t229)) (fun _ hk => hk.2) (.slice Ao66 t230.length co66)) (fun _ h_ => h_.1)) (fun _ h_ => h_.1)))); (case side2 => exact (Kd.qC HO232.out).2.1); rintro e w67 ⟨rfl, hb⟩; refine ⟨_, rfl, ?_⟩; replace HO_216001 := zQ.mk (Kd.qJ (by (with_reducible repeat (first | apply Kd.V_alloc | apply Kd.V_drewN | apply Kd.zT)); exact (Kd.zR (Kd.zR (Kd.qL (p := ⟨gb234, 1, none⟩) (Kd.qL (p := ⟨gb234, 0, none⟩) (Kd.qL (p := ⟨gb233, 1, none⟩) (Kd.qL (p := ⟨gb233, 0, none⟩) (Kd.zR (Kd.zR HO_216001.out (fun k_ hk => (⟨hk, hk.1.2⟩ : _ ∧ k_ ≠ gb233))) (fun k_ hk => (⟨hk, hk.1.2⟩ : _ ∧ k_ ≠ gb234))) (fun _ hk => hk.1.2) (.bool t225)) (fun _ hk => hk.1.2) (.slice Ao61 t226.length co61)) (fun _ hk => hk.2) (.bool t229)) (fun _ hk => hk.2) (.slice Ao66 t230.length co66)) (fun _ h_ => h_.1)) (fun _ h_ => h_.1))) hb); replace HO_222001 := zQ.mk (Kd.qJ (by (with_reducible repeat (first | apply Kd.V_alloc | apply Kd.V_drewN | apply Kd.zT)); exact (Kd.zR (Kd.zR (Kd.qL (p := ⟨gb234, 1, none⟩) (Kd.qL (p := ⟨gb234, 0, none⟩) (Kd.qL (p := ⟨gb233, 1, none⟩) (Kd.qL (p := ⟨gb233, 0, none⟩) (Kd.zR (Kd.zR HO_222001.out (fun k_ hk => (⟨hk, hk.1.2⟩ : _ ∧ k_ ≠ gb233))) (fun k_ hk => (⟨hk, hk.1.2⟩ : _ ∧ k_ ≠ gb234))) (fun _ hk => hk.1.2) (.bool t225)) (fun _ hk => hk.1.2) (.slice Ao61 t226.length co61)) (fun _ hk => hk.2) (.bool t229)) (fun _ hk => hk.2) (.slice Ao66 t230.length co66)) (fun _ h_ => h_.1)) (fun _ h_ => h_.1))) hb); replace HO228 := zQ.mk (Kd.qJ (by (with_reducible repeat (first | apply Kd.V_alloc | apply Kd.V_drewN | apply Kd.zT)); exact (Kd.zR (Kd.zR (Kd.qL (p := ⟨gb234, 1, none⟩) (Kd.qL (p := ⟨gb234, 0, none⟩) (Kd.qL (p := ⟨gb233, 1, none⟩) (Kd.qL (p := ⟨gb233, 0, none⟩) (Kd.zR (Kd.zR HO228.out (fun k_ hk => (⟨hk, hk.1.2⟩ : _ ∧ k_ ≠ gb233))) (fun k_ hk => (⟨hk, hk.1.2⟩ : _ ∧ k_ ≠ gb234))) (fun _ hk => hk.1.2) (.bool t225)) (fun _ hk => hk.1.2) (.slice Ao61 t226.length co61)) (fun _ hk => hk.2) (.bool t229)) (fun _ hk => hk.2) (.slice Ao66 t230.length co66)) (fun _ h_ => h_.1)) (fun _ h_ => h_.1))) hb); replace HO232 := zQ.mk (Kd.qJ (by (with_reducible repeat (first | apply Kd.V_alloc | apply Kd.V_drewN | apply Kd.zT)); exact (Kd.zR (Kd.zR (Kd.qL (p := ⟨gb234, 1, none⟩) (Kd.qL (p := ⟨gb234, 0, none⟩) (Kd.qL (p := ⟨gb233, 1, none⟩) (Kd.qL (p := ⟨gb233, 0, none⟩) (Kd.zR (Kd.zR HO232.out (fun k_ hk => (⟨hk, hk.1.2⟩ : _ ∧ k_ ≠ gb233))) (fun k_ hk => (⟨hk, hk.1.2⟩ : _ ∧ k_ ≠ gb234))) (fun _ hk => hk.1.2) (.bool t225)) (fun _ hk => hk.1.2) (.slice Ao61 t226.length co61)) (fun _ hk => hk.2) (.bool t229)) (fun _ hk => hk.2) (.slice Ao66 t230.length co66)) (fun _ h_ => h_.1)) (fun _ h_ => h_.1))) hb); replace BK215 := zQ.mk (qV (g := gb215) (o := .cells #[.bool x216000_1, .slice Ao52 x216001_1.length co52] 96 (0, 0)) (by (with_reducible repeat (first | refine zJ ?_ _ | refine zK ?_ | refine zZ ?_ _)); refine zF ?_ NB215_234.out _; (with_reducible repeat (first | refine zJ ?_ _ | refine zK ?_ | refine zZ ?_ _)); refine zF ?_ NB215_234.out _; (with_reducible repeat (first | refine zJ ?_ _ | refine zK ?_ | refine zZ ?_ _)); refine zF ?_ NB215_233.out _; (with_reducible repeat (first | refine zJ ?_ _ | refine zK ?_ | refine zZ ?_ _)); refine zF ?_ NB215_233.out _; exact zk BK215) hb); replace BK216 := zQ.mk (qV (g := gb216) (o := .cells #[.int .i64 0, .int .i64 0] 33 (0, 0)) (by (with_reducible repeat (first | refine zJ ?_ _ | refine zK ?_ | refine zZ ?_ _)); refine zF ?_ NB216_234.out _; (with_reducible repeat (first | refine zJ ?_ _ | refine zK ?_ | refine zZ ?_ _)); refine zF ?_ NB216_234.out _; (with_reducible repeat (first | refine zJ ?_ _ | refine zK ?_ | refine zZ ?_ _)); refine zF ?_ NB216_233.out _; (with_reducible repeat (first | refine zJ ?_ _ | refine zK ?_ | refine zZ ?_ _)); refine zF ?_ NB216_233.out _; exact zk BK216) hb); replace BK221 := zQ.mk (qV (g := gb221) (o := .cells #[.bool t217, .slice Ao11 t218.length co11] 96 (0, 0)) (by (with_reducible repeat (first | refine zJ ?_ _ | refine zK ?_ | refine zZ ?_ _)); refine zF ?_ NB221_234.out _; (with_reducible repeat (first | refine zJ ?_ _ | refine zK ?_ | refine zZ ?_ _)); refine zF ?_ NB221_234.out _; (with_reducible repeat (first | refine zJ ?_ _ | refine zK ?_ | refine zZ ?_ _)); refine zF ?_ NB221_233.out _; (with_reducible repeat (first | refine zJ ?_ _ | refine zK ?_ | refine zZ ?_ _)); refine zF ?_ NB221_233.out _; exact zk BK221) hb); replace BK233 := zQ.mk (qV (g := gb233) (o := .cells #[.bool t225, .slice Ao61 t226.length co61] 96 (0, 0)) (by (with_reducible repeat (first | refine zJ ?_ _ | refine zK ?_ | refine zZ ?_ _)); refine zF ?_ NB233_234.out _; (with_reducible repeat (first | refine zJ ?_ _ | refine zK ?_ | refine zZ ?_ _)); refine zF ?_ NB233_234.out _; (with_reducible repeat (first | refine zJ ?_ _ | refine zK ?_ | refine zZ ?_ _)); refine zL (cs := #[.bool t225, .slice none 0 0]) ?_ 1 _ rfl; (with_reducible repeat (first | refine zJ ?_ _ | refine zK ?_ | refine zZ ?_ _)); refine zL (cs := #[.bool false, .slice none 0 0]) ?_ 0 _ rfl; exact zk BK233) hb); replace BK234 := zQ.mk (qV (g := gb234) (o := .cells #[.bool t229, .slice Ao66 t230.length co66] 96 (0, 0)) (by (with_reducible repeat (first | refine zJ ?_ _ | refine zK ?_ | refine zZ ?_ _)); refine zL (cs := #[.bool t229, .slice none 0 0]) ?_ 1 _ rfl; (with_reducible repeat (first | refine zJ ?_ _ | refine zK ?_ | refine zZ ?_ _)); refine zL (cs := #[.bool false, .slice none 0 0]) ?_ 0 _ rfl; (with_reducible repeat (first | refine zJ ?_ _ | refine zK ?_ | refine zZ ?_ _)); refine zF ?_ NB234_233.out _; (with_reducible repeat (first | refine zJ ?_ _ | refine zK ?_ | refine zZ ?_ _)); refine zF ?_ NB234_233.out _; exact zk BK234) hb); replace HB := hs w hb; (try clear hb); obtain ⟨hcz68_0, hcz68_1, hfz68_0, hfz68_1⟩ := cz2 BK215) | ((with_reducible refine gC 79 rfl ?_); refine gl_ 22 Tryz.func79 #[.agg #[.bool x216000_1, .slice Ao52 x216001_1.length co52]] ?_; (with_reducible refine (jS.calls x216000_1 _ _ x216001_1 t239 _ ?side1 ?side2 A16.out).mono ?_); (case side1 => repeat (first | exact (Kd.qC HO_216001.out).2.2 | (with_reducible refine Kd.xK ?_ _) | (with_reducible refine Kd.xW ?_ _) | (with_reducible refine Kd.vK ?_))); (case side2 => exact (Kd.qC HO_216001.out).2.1); rintro e w69 ⟨rfl, hb⟩; refine ⟨_, rfl, ?_⟩; replace HO_216001 := zQ.mk (Kd.qJ (by (with_reducible repeat (first | apply Kd.V_alloc | apply Kd.V_drewN | apply Kd.zT)); exact HO_216001.out) hb); replace HO_222001 := zQ.mk (Kd.qJ (by (with_reducible repeat (first | apply Kd.V_alloc | apply Kd.V_drewN | apply Kd.zT)); exact HO_222001.out) hb); replace HO228 := zQ.mk (Kd.qJ (by (with_reducible repeat (first | apply Kd.V_alloc | apply Kd.V_drewN | apply Kd.zT)); exact HO228.out) hb); replace HO232 := zQ.mk (Kd.qJ (by (with_reducible repeat (first | apply Kd.V_alloc | apply Kd.V_drewN | apply Kd.zT)); exact HO232.out) hb); replace BK215 := bb BK215 hb; replace BK216 := bb BK216 hb; replace BK221 := bb BK221 hb; replace BK233 := bb BK233 hb; replace BK234 := bb BK234 hb; replace HB := hs w hb; (try clear hb); obtain ⟨hcz70_0, hcz70_1, hfz70_0, hfz70_1⟩ := cz2 BK233; obtain ⟨hcz71_0, hcz71_1, hfz71_0, hfz71_1⟩ := cz2 BK215))
      go_roundg k1
      case measure => have := HK1.out; omega
      case rel => exact ⟨(wrap64 (x1_1 - 1)), (t225), (t226), (.slice Ao61 t226.length co61), ar, H', ⟨by have := HK1.out; omega⟩, ⟨by (with_reducible repeat (first | apply Kd.V_alloc | apply Kd.V_drewN | apply Kd.zT)); exact Kd.zR (Kd.qL (p := ⟨gb215, 1, none⟩) (Kd.qL (p := ⟨gb215, 0, none⟩) (Kd.zR HO228.out (fun k_ hk => (⟨hk, hk.1.1.2.1⟩ : _ ∧ k_ ≠ gb215))) (fun _ hk => hk.2) (.bool t225)) (fun _ hk => hk.2) (.slice Ao61 t226.length co61)) (fun _ hk => ⟨hk.1.1.1.1, ⟨hk.1.1.1.2.1, ⟨hk.1.1.1.2.2.1, hk.1.1.1.2.2.2⟩⟩⟩)⟩, ⟨by (with_reducible repeat (first | apply Kd.V_alloc | apply Kd.V_drewN | apply Kd.zT)); exact Kd.zR (Kd.qL (p := ⟨gb215, 1, none⟩) (Kd.qL (p := ⟨gb215, 0, none⟩) (Kd.zR HO_222001.out (fun k_ hk => (⟨hk, hk.1.1.2.1⟩ : _ ∧ k_ ≠ gb215))) (fun _ hk => hk.2) (.bool t225)) (fun _ hk => hk.2) (.slice Ao61 t226.length co61)) (fun _ hk => ⟨hk.1.1.1.1, ⟨hk.1.1.1.2.1, ⟨hk.1.1.1.2.2.1, hk.1.1.1.2.2.2⟩⟩⟩)⟩, ⟨by (with_reducible repeat (first | refine zJ ?_ _ | refine zK ?_ | refine zZ ?_ _)); refine zL (cs := #[.bool t225, .slice Ao52 x216001_1.length co52]) ?_ 1 _ rfl; (with_reducible repeat (first | refine zJ ?_ _ | refine zK ?_ | refine zZ ?_ _)); refine zL (cs := #[.bool x216000_1, .slice Ao52 x216001_1.length co52]) ?_ 0 _ rfl; exact zk BK215⟩, ⟨by (with_reducible repeat (first | refine zJ ?_ _ | refine zK ?_ | refine zZ ?_ _)); refine zF ?_ NB216_215.out _; (with_reducible repeat (first | refine zJ ?_ _ | refine zK ?_ | refine zZ ?_ _)); refine zF ?_ NB216_215.out _; exact zk BK216⟩, ⟨by (with_reducible repeat (first | refine zJ ?_ _ | refine zK ?_ | refine zZ ?_ _)); refine zF ?_ NB221_215.out _; (with_reducible repeat (first | refine zJ ?_ _ | refine zK ?_ | refine zZ ?_ _)); refine zF ?_ NB221_215.out _; exact zk BK221⟩, ⟨(zb w)⟩⟩
    ·rw [if_neg c15] at H
     have c15b0 : (t235 == 0) = false := beq_eq_false_iff_ne.mpr c15
     have c15b1 : (t235 != 0) = true := bne_iff_ne.mpr c15
     replace H := Option.bind_eq_some_iff.mp H
     obtain ⟨⟨t236, t237, t238⟩, A720, H⟩ := H
     try dsimp only at H
     have A72 := zQ.mk A720
     clear A720
     simp only [Option.some.injEq, Prod.mk.injEq] at H
     obtain ⟨rfl, rfl, rfl⟩ := H
     have hnb73 := NB215_216.out
     have hnc73 := NB216_215.out
     have hnb74 := NB215_221.out
     have hnc74 := NB221_215.out
     obtain ⟨hcz75_0, hcz75_1, hfz75_0, hfz75_1⟩ := cz2 BK215
     have hnb76 := NB221_216.out
     have hnc76 := NB216_221.out
     obtain ⟨hcz77_0, hcz77_1, hfz77_0, hfz77_1⟩ := cz2 BK221
     obtain ⟨Ao78, co78, eo78⟩ := Kd.jW HO_216001.out
     subst eo78
     go_wp2_with (first | ((with_reducible refine gC 78 rfl ?_); refine gl_ 15 Tryz.func78 #[.agg #[.bool x216000_1, .slice Ao78 x216001_1.length co78], .agg #[.bool t217, .slice Ao11 t218.length co11]] ?_; (with_reducible refine (zU.calls k1 x216000_1 _ _ x216001_1 t217 _ _ t218 t225 t226 t229 t230 _ ?side1 ?side2 ?side3 ?side4 A13.out).mono ?_); (case side1 => repeat (first | exact (Kd.qC HO_216001.out).2.2 | (with_reducible refine Kd.xK ?_ _) | (with_reducible refine Kd.xW ?_ _) | (with_reducible refine Kd.vK ?_))); (case side2 => exact (Kd.qC HO_216001.out).2.1); (case side3 => repeat (first | exact (Kd.qC HO_222001.out).2.2 | (with_reducible refine Kd.xK ?_ _) | (with_reducible refine Kd.xW ?_ _) | (with_reducible refine Kd.vK ?_))); (case side4 => exact (Kd.qC HO_222001.out).2.1); rintro e w79 ⟨v227, v231, rfl, ho0, ho1, hb⟩; refine ⟨_, rfl, ?_⟩; replace HO_216001 := zQ.mk (Kd.qJ (by (with_reducible repeat (first | apply Kd.V_alloc | apply Kd.V_drewN | apply Kd.zT)); exact HO_216001.out) hb); replace HO_222001 := zQ.mk (Kd.qJ (by (with_reducible repeat (first | apply Kd.V_alloc | apply Kd.V_drewN | apply Kd.zT)); exact HO_222001.out) hb); have HO228 := zQ.mk (Kd.xJ (Kd.zR (ok' := fun k_ => (P0_1_ k_ ∨ w.heap.size ≤ k_) ∧ k_ ≠ gb215 ∧ k_ ≠ gb216 ∧ k_ ≠ gb221) ho0 (fun k_ hk_ => ⟨(.inr (Nat.le_trans (zy (zb w)) hk_)), (Kd.qH (g := gb215) (o := .cells #[.bool x216000_1, .slice Ao78 x216001_1.length co78] 96 (0, 0)) (zk BK215) k_ hk_), (Kd.qH (g := gb216) (o := .cells #[.int .i64 0, .int .i64 0] 33 (0, 0)) (zk BK216) k_ hk_), (Kd.qH (g := gb221) (o := .cells #[.bool t217, .slice Ao11 t218.length co11] 96 (0, 0)) (zk BK221) k_ hk_)⟩)) (zy (zb w))); have HO232 := zQ.mk (Kd.xJ (Kd.zR (ok' := fun k_ => (P0_1_ k_ ∨ w.heap.size ≤ k_) ∧ k_ ≠ gb215 ∧ k_ ≠ gb216 ∧ k_ ≠ gb221) ho1 (fun k_ hk_ => ⟨(.inr (Nat.le_trans (zy (zb w)) hk_)), (Kd.qH (g := gb215) (o := .cells #[.bool x216000_1, .slice Ao78 x216001_1.length co78] 96 (0, 0)) (zk BK215) k_ hk_), (Kd.qH (g := gb216) (o := .cells #[.int .i64 0, .int .i64 0] 33 (0, 0)) (zk BK216) k_ hk_), (Kd.qH (g := gb221) (o := .cells #[.bool t217, .slice Ao11 t218.length co11] 96 (0, 0)) (zk BK221) k_ hk_)⟩)) (zy (zb w))); replace BK215 := bb BK215 hb; replace BK216 := bb BK216 hb; replace BK221 := bb BK221 hb; replace HB := hs w hb; (try clear hb); (try clear ho0); (try clear ho1)) | ((with_reducible refine gD 7 rfl ?_); refine jU ?hg (N := 7) ?hd (cs := #[.bool false, .slice none 0 0]) (t := 96) ?hr ?_; (case hd => rfl); (case hg => rfl); (case hr => first | (go_simp; done) | (go_simp; rfl)); intro gb233 hg w80 hbox hb; replace HO_216001 := zQ.mk (Kd.qJ (Kd.jK (by (with_reducible repeat (first | apply Kd.V_alloc | apply Kd.V_drewN | apply Kd.zT)); exact HO_216001.out) gb233 (Nat.le_of_eq hg.symm)) hb); replace HO_222001 := zQ.mk (Kd.qJ (Kd.jK (by (with_reducible repeat (first | apply Kd.V_alloc | apply Kd.V_drewN | apply Kd.zT)); exact HO_222001.out) gb233 (Nat.le_of_eq hg.symm)) hb); replace HO228 := zQ.mk (Kd.qJ (Kd.jK (by (with_reducible repeat (first | apply Kd.V_alloc | apply Kd.V_drewN | apply Kd.zT)); exact HO228.out) gb233 (Nat.le_of_eq hg.symm)) hb); replace HO232 := zQ.mk (Kd.qJ (Kd.jK (by (with_reducible repeat (first | apply Kd.V_alloc | apply Kd.V_drewN | apply Kd.zT)); exact HO232.out) gb233 (Nat.le_of_eq hg.symm)) hb); have BK233 := zQ.mk (hbox); have GW233 := zQ.mk ((by rw [hg]; exact (zy (zb w)) : w.heap.size ≤ gb233)); have GE233 := zQ.mk ((by rw [hg]; exact (zy (zb w)) : w.heap.size ≤ gb233)); replace HB := hs w hb; have NB215_233 := nbl BK215 hg; have NB233_215 := nbr BK215 hg; replace BK215 := bb BK215 hb; have NB216_233 := nbl BK216 hg; have NB233_216 := nbr BK216 hg; replace BK216 := bb BK216 hb; have NB221_233 := nbl BK221 hg; have NB233_221 := nbr BK221 hg; replace BK221 := bb BK221 hb; clear hb hg) | ((with_reducible refine gD 8 rfl ?_); refine jU ?hg (N := 8) ?hd (cs := #[.bool false, .slice none 0 0]) (t := 96) ?hr ?_; (case hd => rfl); (case hg => rfl); (case hr => first | (go_simp; done) | (go_simp; rfl)); intro gb234 hg w81 hbox hb; replace HO_216001 := zQ.mk (Kd.qJ (Kd.jK (by (with_reducible repeat (first | apply Kd.V_alloc | apply Kd.V_drewN | apply Kd.zT)); exact HO_216001.out) gb234 (Nat.le_of_eq hg.symm)) hb); replace HO_222001 := zQ.mk (Kd.qJ (Kd.jK (by (with_reducible repeat (first | apply Kd.V_alloc | apply Kd.V_drewN | apply Kd.zT)); exact HO_222001.out) gb234 (Nat.le_of_eq hg.symm)) hb); replace HO228 := zQ.mk (Kd.qJ (Kd.jK (by (with_reducible repeat (first | apply Kd.V_alloc | apply Kd.V_drewN | apply Kd.zT)); exact HO228.out) gb234 (Nat.le_of_eq hg.symm)) hb); replace HO232 := zQ.mk (Kd.qJ (Kd.jK (by (with_reducible repeat (first | apply Kd.V_alloc | apply Kd.V_drewN | apply Kd.zT)); exact HO232.out) gb234 (Nat.le_of_eq hg.symm)) hb); have BK234 := zQ.mk (hbox); have GW234 := zQ.mk ((by rw [hg]; exact (zy (zb w)) : w.heap.size ≤ gb234)); have GE234 := zQ.mk ((by rw [hg]; exact (zy (zb w)) : w.heap.size ≤ gb234)); replace HB := hs w hb; have NB215_234 := nbl BK215 hg; have NB234_215 := nbr BK215 hg; replace BK215 := bb BK215 hb; have NB216_234 := nbl BK216 hg; have NB234_216 := nbr BK216 hg; replace BK216 := bb BK216 hb; have NB221_234 := nbl BK221 hg; have NB234_221 := nbr BK221 hg; replace BK221 := bb BK221 hb; have NB233_234 := nbl BK233 hg; have NB234_233 := nbr BK233 hg; replace BK233 := bb BK233 hb; clear hb hg; have hnb82 := NB233_215.out; have hnc82 := NB215_233.out; have hnb83 := NB233_216.out; have hnc83 := NB216_233.out; have hnb84 := NB233_221.out; have hnc84 := NB221_233.out; have hnb85 := NB233_234.out; have hnc85 := NB234_233.out; obtain ⟨hcz86_0, hcz86_1, hfz86_0, hfz86_1⟩ := cz2 BK233; obtain ⟨Ao87, co87, eo87⟩ := Kd.jW HO228.out; subst eo87; have hnb88 := NB234_215.out; have hnc88 := NB215_234.out; have hnb89 := NB234_216.out; have hnc89 := NB216_234.out; have hnb90 := NB234_221.out; have hnc90 := NB221_234.out; obtain ⟨hcz91_0, hcz91_1, hfz91_0, hfz91_1⟩ := cz2 BK234; obtain ⟨Ao92, co92, eo92⟩ := Kd.jW HO232.out; subst eo92) | ((with_reducible refine gC 79 rfl ?_); refine gl_ 19 Tryz.func79 #[.agg #[.bool t229, .slice Ao92 t230.length co92]] ?_; (with_reducible refine (jS.calls t229 _ _ t230 t235 _ ?side1 ?side2 A14.out).mono ?_); (case side1 => refine (Kd.qC (e := 114) (base := w.heap.size) (ok := fun k_ => ((((P0_1_ k_ ∨ w.heap.size ≤ k_) ∧ (k_ ≠ gb215 ∧ (k_ ≠ gb216 ∧ k_ ≠ gb221))) ∧ k_ ≠ gb233) ∧ k_ ≠ gb234)) (n := t230.length) (c := co92) ?_).2.2; exact (by (with_reducible repeat (first | apply Kd.V_alloc | apply Kd.V_drewN | apply Kd.zT)); exact (Kd.zR (Kd.zR (Kd.qL (p := ⟨gb234, 1, none⟩) (Kd.qL (p := ⟨gb234, 0, none⟩) (Kd.qL (p := ⟨gb233, 1, none⟩) (Kd.qL (p := ⟨gb233, 0, none⟩) (Kd.zR (Kd.zR HO232.out (fun k_ hk => (⟨hk, hk.1.2⟩ : _ ∧ k_ ≠ gb233))) (fun k_ hk => (⟨hk, hk.1.2⟩ : _ ∧ k_ ≠ gb234))) (fun _ hk => hk.1.2) (.bool t225)) (fun _ hk => hk.1.2) (.slice Ao87 t226.length co87)) (fun _ hk => hk.2) (.bool t229)) (fun _ hk => hk.2) (.slice Ao92 t230.length co92)) (fun _ h_ => h_.1)) (fun _ h_ => h_.1)))); (case side2 => exact (Kd.qC HO232.out).2.1); rintro e w93 ⟨rfl, hb⟩; refine ⟨_, rfl, ?_⟩; replace HO_216001 := zQ.mk (Kd.qJ (by (with_reducible repeat (first | apply Kd.V_alloc | apply Kd.V_drewN | apply Kd.zT)); exact (Kd.zR (Kd.zR (Kd.qL (p := ⟨gb234, 1, none⟩) (Kd.qL (p := ⟨gb234, 0, none⟩) (Kd.qL (p := ⟨gb233, 1, none⟩) (Kd.qL (p := ⟨gb233, 0, none⟩) (Kd.zR (Kd.zR HO_216001.out (fun k_ hk => (⟨hk, hk.1.2⟩ : _ ∧ k_ ≠ gb233))) (fun k_ hk => (⟨hk, hk.1.2⟩ : _ ∧ k_ ≠ gb234))) (fun _ hk => hk.1.2) (.bool t225)) (fun _ hk => hk.1.2) (.slice Ao87 t226.length co87)) (fun _ hk => hk.2) (.bool t229)) (fun _ hk => hk.2) (.slice Ao92 t230.length co92)) (fun _ h_ => h_.1)) (fun _ h_ => h_.1))) hb); replace HO_222001 := zQ.mk (Kd.qJ (by (with_reducible repeat (first | apply Kd.V_alloc | apply Kd.V_drewN | apply Kd.zT)); exact (Kd.zR (Kd.zR (Kd.qL (p := ⟨gb234, 1, none⟩) (Kd.qL (p := ⟨gb234, 0, none⟩) (Kd.qL (p := ⟨gb233, 1, none⟩) (Kd.qL (p := ⟨gb233, 0, none⟩) (Kd.zR (Kd.zR HO_222001.out (fun k_ hk => (⟨hk, hk.1.2⟩ : _ ∧ k_ ≠ gb233))) (fun k_ hk => (⟨hk, hk.1.2⟩ : _ ∧ k_ ≠ gb234))) (fun _ hk => hk.1.2) (.bool t225)) (fun _ hk => hk.1.2) (.slice Ao87 t226.length co87)) (fun _ hk => hk.2) (.bool t229)) (fun _ hk => hk.2) (.slice Ao92 t230.length co92)) (fun _ h_ => h_.1)) (fun _ h_ => h_.1))) hb); replace HO228 := zQ.mk (Kd.qJ (by (with_reducible repeat (first | apply Kd.V_alloc | apply Kd.V_drewN | apply Kd.zT)); exact (Kd.zR (Kd.zR (Kd.qL (p := ⟨gb234, 1, none⟩) (Kd.qL (p := ⟨gb234, 0, none⟩) (Kd.qL (p := ⟨gb233, 1, none⟩) (Kd.qL (p := ⟨gb233, 0, none⟩) (Kd.zR (Kd.zR HO228.out (fun k_ hk => (⟨hk, hk.1.2⟩ : _ ∧ k_ ≠ gb233))) (fun k_ hk => (⟨hk, hk.1.2⟩ : _ ∧ k_ ≠ gb234))) (fun _ hk => hk.1.2) (.bool t225)) (fun _ hk => hk.1.2) (.slice Ao87 t226.length co87)) (fun _ hk => hk.2) (.bool t229)) (fun _ hk => hk.2) (.slice Ao92 t230.length co92)) (fun _ h_ => h_.1)) (fun _ h_ => h_.1))) hb); replace HO232 := zQ.mk (Kd.qJ (by (with_reducible repeat (first | apply Kd.V_alloc | apply Kd.V_drewN | apply Kd.zT)); exact (Kd.zR (Kd.zR (Kd.qL (p := ⟨gb234, 1, none⟩) (Kd.qL (p := ⟨gb234, 0, none⟩) (Kd.qL (p := ⟨gb233, 1, none⟩) (Kd.qL (p := ⟨gb233, 0, none⟩) (Kd.zR (Kd.zR HO232.out (fun k_ hk => (⟨hk, hk.1.2⟩ : _ ∧ k_ ≠ gb233))) (fun k_ hk => (⟨hk, hk.1.2⟩ : _ ∧ k_ ≠ gb234))) (fun _ hk => hk.1.2) (.bool t225)) (fun _ hk => hk.1.2) (.slice Ao87 t226.length co87)) (fun _ hk => hk.2) (.bool t229)) (fun _ hk => hk.2) (.slice Ao92 t230.length co92)) (fun _ h_ => h_.1)) (fun _ h_ => h_.1))) hb); replace BK215 := zQ.mk (qV (g := gb215) (o := .cells #[.bool x216000_1, .slice Ao78 x216001_1.length co78] 96 (0, 0)) (by (with_reducible repeat (first | refine zJ ?_ _ | refine zK ?_ | refine zZ ?_ _)); refine zF ?_ NB215_234.out _; (with_reducible repeat (first | refine zJ ?_ _ | refine zK ?_ | refine zZ ?_ _)); refine zF ?_ NB215_234.out _; (with_reducible repeat (first | refine zJ ?_ _ | refine zK ?_ | refine zZ ?_ _)); refine zF ?_ NB215_233.out _; (with_reducible repeat (first | refine zJ ?_ _ | refine zK ?_ | refine zZ ?_ _)); refine zF ?_ NB215_233.out _; exact zk BK215) hb); replace BK216 := zQ.mk (qV (g := gb216) (o := .cells #[.int .i64 0, .int .i64 0] 33 (0, 0)) (by (with_reducible repeat (first | refine zJ ?_ _ | refine zK ?_ | refine zZ ?_ _)); refine zF ?_ NB216_234.out _; (with_reducible repeat (first | refine zJ ?_ _ | refine zK ?_ | refine zZ ?_ _)); refine zF ?_ NB216_234.out _; (with_reducible repeat (first | refine zJ ?_ _ | refine zK ?_ | refine zZ ?_ _)); refine zF ?_ NB216_233.out _; (with_reducible repeat (first | refine zJ ?_ _ | refine zK ?_ | refine zZ ?_ _)); refine zF ?_ NB216_233.out _; exact zk BK216) hb); replace BK221 := zQ.mk (qV (g := gb221) (o := .cells #[.bool t217, .slice Ao11 t218.length co11] 96 (0, 0)) (by (with_reducible repeat (first | refine zJ ?_ _ | refine zK ?_ | refine zZ ?_ _)); refine zF ?_ NB221_234.out _; (with_reducible repeat (first | refine zJ ?_ _ | refine zK ?_ | refine zZ ?_ _)); refine zF ?_ NB221_234.out _; (with_reducible repeat (first | refine zJ ?_ _ | refine zK ?_ | refine zZ ?_ _)); refine zF ?_ NB221_233.out _; (with_reducible repeat (first | refine zJ ?_ _ | refine zK ?_ | refine zZ ?_ _)); refine zF ?_ NB221_233.out _; exact zk BK221) hb); replace BK233 := zQ.mk (qV (g := gb233) (o := .cells #[.bool t225, .slice Ao87 t226.length co87] 96 (0, 0)) (by (with_reducible repeat (first | refine zJ ?_ _ | refine zK ?_ | refine zZ ?_ _)); refine zF ?_ NB233_234.out _; (with_reducible repeat (first | refine zJ ?_ _ | refine zK ?_ | refine zZ ?_ _)); refine zF ?_ NB233_234.out _; (with_reducible repeat (first | refine zJ ?_ _ | refine zK ?_ | refine zZ ?_ _)); refine zL (cs := #[.bool t225, .slice none 0 0]) ?_ 1 _ rfl; (with_reducible repeat (first | refine zJ ?_ _ | refine zK ?_ | refine zZ ?_ _)); refine zL (cs := #[.bool false, .slice none 0 0]) ?_ 0 _ rfl; exact zk BK233) hb); replace BK234 := zQ.mk (qV (g := gb234) (o := .cells #[.bool t229, .slice Ao92 t230.length co92] 96 (0, 0)) (by (with_reducible repeat (first | refine zJ ?_ _ | refine zK ?_ | refine zZ ?_ _)); refine zL (cs := #[.bool t229, .slice none 0 0]) ?_ 1 _ rfl; (with_reducible repeat (first | refine zJ ?_ _ | refine zK ?_ | refine zZ ?_ _)); refine zL (cs := #[.bool false, .slice none 0 0]) ?_ 0 _ rfl; (with_reducible repeat (first | refine zJ ?_ _ | refine zK ?_ | refine zZ ?_ _)); refine zF ?_ NB234_233.out _; (with_reducible repeat (first | refine zJ ?_ _ | refine zK ?_ | refine zZ ?_ _)); refine zF ?_ NB234_233.out _; exact zk BK234) hb); replace HB := hs w hb; (try clear hb); obtain ⟨hcz94_0, hcz94_1, hfz94_0, hfz94_1⟩ := cz2 BK215) | ((with_reducible refine gC 81 rfl ?_); refine gl_ 31 Tryz.func81 #[.agg #[.bool x216000_1, .slice Ao78 x216001_1.length co78], .int .i64 x1_1] ?_; (with_reducible refine (vW.calls k1 x216000_1 _ _ x216001_1 x1_1 t236 t237 t238 _ ?side1 ?side2 A72.out).mono ?_); (case side1 => repeat (first | exact (Kd.qC HO_216001.out).2.2 | (with_reducible refine Kd.xK ?_ _) | (with_reducible refine Kd.xW ?_ _) | (with_reducible refine Kd.vK ?_))); (case side2 => exact (Kd.qC HO_216001.out).2.1); rintro e w95 ⟨rfl, hb⟩; refine ⟨_, rfl, ?_⟩; replace HO_216001 := zQ.mk (Kd.qJ (by (with_reducible repeat (first | apply Kd.V_alloc | apply Kd.V_drewN | apply Kd.zT)); exact HO_216001.out) hb); replace HO_222001 := zQ.mk (Kd.qJ (by (with_reducible repeat (first | apply Kd.V_alloc | apply Kd.V_drewN | apply Kd.zT)); exact HO_222001.out) hb); replace HO228 := zQ.mk (Kd.qJ (by (with_reducible repeat (first | apply Kd.V_alloc | apply Kd.V_drewN | apply Kd.zT)); exact HO228.out) hb); replace HO232 := zQ.mk (Kd.qJ (by (with_reducible repeat (first | apply Kd.V_alloc | apply Kd.V_drewN | apply Kd.zT)); exact HO232.out) hb); replace BK215 := bb BK215 hb; replace BK216 := bb BK216 hb; replace BK221 := bb BK221 hb; replace BK233 := bb BK233 hb; replace BK234 := bb BK234 hb; replace HB := hs w hb; (try clear hb); obtain ⟨hcz96_0, hcz96_1, hfz96_0, hfz96_1⟩ := cz2 BK216))
     refine bodyPost_ret (kX rfl _ _ gb216 33 #[.int .i64 t236, .int .i64 t237] (0, 0) _ rfl (by (with_reducible repeat (first | refine zJ ?_ _ | refine zK ?_ | refine zZ ?_ _)); refine zL (cs := #[.int .i64 t236, .int .i64 0]) ?_ 1 _ rfl; (with_reducible repeat (first | refine zJ ?_ _ | refine zK ?_ | refine zZ ?_ _)); refine zL (cs := #[.int .i64 0, .int .i64 0]) ?_ 0 _ rfl; exact zk BK216) Tryz.underlying33 rfl (by kernel_rfl)) rfl ?_
     exact ⟨by first | rfl | (simp [zq, zY] <;> rfl) | (simp [*, zq, zY] <;> rfl), (zb w)⟩
   ·rw [if_neg c12] at H
    have c12b0 : decide (0 < x1_1) = false := decide_eq_false c12
    clear c12
    replace H := Option.bind_eq_some_iff.mp H
    obtain ⟨⟨t222, t223, t224⟩, A970, H⟩ := H
    try dsimp only at H
    have A97 := zQ.mk A970
    clear A970
    simp only [Option.some.injEq, Prod.mk.injEq] at H
    obtain ⟨rfl, rfl, rfl⟩ := H
    have hnb98 := NB215_216.out
    have hnc98 := NB216_215.out
    have hnb99 := NB215_221.out
    have hnc99 := NB221_215.out
    obtain ⟨hcz100_0, hcz100_1, hfz100_0, hfz100_1⟩ := cz2 BK215
    obtain ⟨Ao101, co101, eo101⟩ := Kd.jW HO_216001.out
    subst eo101
    go_wp2_with (first | ((with_reducible refine gC 81 rfl ?_); refine gl_ 31 Tryz.func81 #[.agg #[.bool x216000_1, .slice Ao101 x216001_1.length co101], .int .i64 x1_1] ?_; (with_reducible refine (vW.calls k1 x216000_1 _ _ x216001_1 x1_1 t222 t223 t224 _ ?side1 ?side2 A97.out).mono ?_); (case side1 => repeat (first | exact (Kd.qC HO_216001.out).2.2 | (with_reducible refine Kd.xK ?_ _) | (with_reducible refine Kd.xW ?_ _) | (with_reducible refine Kd.vK ?_))); (case side2 => exact (Kd.qC HO_216001.out).2.1); rintro e w102 ⟨rfl, hb⟩; refine ⟨_, rfl, ?_⟩; replace HO_216001 := zQ.mk (Kd.qJ (by (with_reducible repeat (first | apply Kd.V_alloc | apply Kd.V_drewN | apply Kd.zT)); exact HO_216001.out) hb); replace HO_222001 := zQ.mk (Kd.qJ (by (with_reducible repeat (first | apply Kd.V_alloc | apply Kd.V_drewN | apply Kd.zT)); exact HO_222001.out) hb); replace BK215 := bb BK215 hb; replace BK216 := bb BK216 hb; replace BK221 := bb BK221 hb; replace HB := hs w hb; (try clear hb); have hnb103 := NB216_221.out; have hnc103 := NB221_216.out; obtain ⟨hcz104_0, hcz104_1, hfz104_0, hfz104_1⟩ := cz2 BK216))
    refine bodyPost_ret (kX rfl _ _ gb216 33 #[.int .i64 t222, .int .i64 t223] (0, 0) _ rfl (by (with_reducible repeat (first | refine zJ ?_ _ | refine zK ?_ | refine zZ ?_ _)); refine zL (cs := #[.int .i64 t222, .int .i64 0]) ?_ 1 _ rfl; (with_reducible repeat (first | refine zJ ?_ _ | refine zK ?_ | refine zZ ?_ _)); refine zL (cs := #[.int .i64 0, .int .i64 0]) ?_ 0 _ rfl; exact zk BK216) Tryz.underlying33 rfl (by kernel_rfl)) rfl ?_
    exact ⟨by first | rfl | (simp [zq, zY] <;> rfl) | (simp [*, zq, zY] <;> rfl), (zb w)⟩
def xR.f (k : Nat) (a0 : Int) : Option (Int × Int × Int) := (uL.f k a0).bind fun bt245 => ((jJ.f k bt245.1 bt245.2 4).bind fun bt249 => (some (bt249.1, bt249.2.1, bt249.2.2)))
theorem xR.calls (k : Nat) (a0 : Int) (r1 : Int) (r2 : Int) (r3 : Int) (w : World) (h : xR.f k a0 = some (r1, r2, r3)) :
  Calls Tryz.prog 40 #[.int .i64 a0] w fun e w' => e = .returned (.tuple #[.agg #[.int .i64 r1, .int .i64 r2], .int .i64 r3]) ∧ Below w.heap.size w w' := by
 have hu33 := Tryz.underlying33
 have HB := zQ.mk (Below.refl w.heap.size w)
 have H := h
 unfold xR.f at H
 clear h
 replace H := Option.bind_eq_some_iff.mp H
 obtain ⟨⟨t245, t246⟩, A20, H⟩ := H
 try dsimp only at H
 have A2 := zQ.mk A20
 clear A20
 replace H := Option.bind_eq_some_iff.mp H
 obtain ⟨⟨t249, t250, t251⟩, A30, H⟩ := H
 try dsimp only at H
 have A3 := zQ.mk A30
 clear A30
 simp only [Option.some.injEq, Prod.mk.injEq] at H
 obtain ⟨rfl, rfl, rfl⟩ := H
 go_enter Tryz.func40, Tryz.ntmps40
 go_wp2_with (first | ((with_reducible refine gD 2 rfl ?_); refine bx w 2 #[.int .i64 0, .int .i64 0] 33 ?_; intro gb244 hg w4 hb BK244 GW244 GE244; clear HB; intro HB; clear hb hg) | ((with_reducible refine gC 61 rfl ?_); refine gl_ 5 Tryz.func61 #[.int .i64 a0] ?_; (with_reducible refine (uL.calls k a0 t245 t246 _ A2.out).mono ?_); rintro e w5 ⟨v247, rfl, ho0, hb⟩; refine ⟨_, rfl, ?_⟩; have HO248 := zQ.mk (Kd.xJ (Kd.zR (ok' := fun k_ => k_ ≠ gb244) ho0 (fun k_ hk_ => (Kd.qH (g := gb244) (o := .cells #[.int .i64 0, .int .i64 0] 33 (0, 0)) (zk BK244) k_ hk_))) (zy (zb w))); replace BK244 := bb BK244 hb; replace HB := hs w hb; (try clear hb); (try clear ho0); obtain ⟨Ao6, co6, eo6⟩ := Kd.jW HO248.out; subst eo6) | ((with_reducible refine gC 60 rfl ?_); refine gl_ 6 Tryz.func60 #[.agg #[.bool t245, .slice Ao6 t246.length co6], .int .i64 4] ?_; (with_reducible refine (jJ.calls k t245 (fun k_ => k_ ≠ gb244) _ _ t246 4 t249 t250 t251 _ HO248.out A3.out).mono ?_); rintro e w7 ⟨rfl, hb⟩; refine ⟨_, rfl, ?_⟩; replace HO248 := zQ.mk (Kd.qJ (by (with_reducible repeat (first | apply Kd.V_alloc | apply Kd.V_drewN | apply Kd.zT)); exact HO248.out) hb); replace BK244 := bb BK244 hb; replace HB := hs w hb; (try clear hb); obtain ⟨hcz8_0, hcz8_1, hfz8_0, hfz8_1⟩ := cz2 BK244))
 refine bodyPost_ret (kX rfl _ _ gb244 33 #[.int .i64 t249, .int .i64 t250] (0, 0) _ rfl (by (with_reducible repeat (first | refine zJ ?_ _ | refine zK ?_ | refine zZ ?_ _)); refine zL (cs := #[.int .i64 t249, .int .i64 0]) ?_ 1 _ rfl; (with_reducible repeat (first | refine zJ ?_ _ | refine zK ?_ | refine zZ ?_ _)); refine zL (cs := #[.int .i64 0, .int .i64 0]) ?_ 0 _ rfl; exact zk BK244) Tryz.underlying33 rfl (by kernel_rfl)) rfl ?_
 exact ⟨by first | rfl | (simp [zq, zY] <;> rfl) | (simp [*, zq, zY] <;> rfl), (zb w)⟩
def jk.f (k : Nat) (a0 : Int) : Option (Int × Int) := (xR.f k a0).bind fun bt253 => (some (bt253.1, bt253.2.1))
theorem jk.calls (k : Nat) (a0 : Int) (r1 : Int) (r2 : Int) (w : World) (h : jk.f k a0 = some (r1, r2)) :
  Calls Tryz.prog 24 #[.int .i64 a0] w fun e w' => e = .returned (.agg #[.int .i64 r1, .int .i64 r2]) ∧ Below w.heap.size w w' := by
 have hu33 := Tryz.underlying33
 have HB := zQ.mk (Below.refl w.heap.size w)
 have H := h
 unfold jk.f at H
 clear h
 replace H := Option.bind_eq_some_iff.mp H
 obtain ⟨⟨t253, t254, t255⟩, A20, H⟩ := H
 try dsimp only at H
 have A2 := zQ.mk A20
 clear A20
 simp only [Option.some.injEq, Prod.mk.injEq] at H
 obtain ⟨rfl, rfl⟩ := H
 go_enter Tryz.func24, Tryz.ntmps24
 go_wp2_with (first | ((with_reducible refine gD 2 rfl ?_); refine bx w 2 #[.int .i64 0, .int .i64 0] 33 ?_; intro gb252 hg w3 hb BK252 GW252 GE252; clear HB; intro HB; clear hb hg) | ((with_reducible refine gC 40 rfl ?_); refine gl_ 7 Tryz.func40 #[.int .i64 a0] ?_; (with_reducible refine (xR.calls k a0 t253 t254 t255 _ A2.out).mono ?_); rintro e w4 ⟨rfl, hb⟩; refine ⟨_, rfl, ?_⟩; replace BK252 := bb BK252 hb; replace HB := hs w hb; (try clear hb)) | ((with_reducible refine gD 3 rfl ?_); refine bx w 3 #[.int .i64 0, .int .i64 0] 33 ?_; intro gb256 hg w5 hb BK256 GW256 GE256; clear HB; intro HB; have NB252_256 := nbl BK252 hg; have NB256_252 := nbr BK252 hg; replace BK252 := bb BK252 hb; clear hb hg; have hnb6 := NB256_252.out; have hnc6 := NB252_256.out; obtain ⟨hcz7_0, hcz7_1, hfz7_0, hfz7_1⟩ := cz2 BK256; obtain ⟨hcz8_0, hcz8_1, hfz8_0, hfz8_1⟩ := cz2 BK252))
 refine bodyPost_ret (results_cell_row rfl _ _ gb252 33 #[.int .i64 t253, .int .i64 t254] (0, 0) _ rfl (by (with_reducible repeat (first | refine zJ ?_ _ | refine zK ?_ | refine zZ ?_ _)); refine zL (cs := #[.int .i64 t253, .int .i64 0]) ?_ 1 _ rfl; (with_reducible repeat (first | refine zJ ?_ _ | refine zK ?_ | refine zZ ?_ _)); refine zL (cs := #[.int .i64 0, .int .i64 0]) ?_ 0 _ rfl; (with_reducible repeat (first | refine zJ ?_ _ | refine zK ?_ | refine zZ ?_ _)); refine zF ?_ NB252_256.out _; (with_reducible repeat (first | refine zJ ?_ _ | refine zK ?_ | refine zZ ?_ _)); refine zF ?_ NB252_256.out _; exact zk BK252) Tryz.underlying33 rfl (by kernel_rfl)) rfl ?_
 exact ⟨by first | rfl | (simp [zq, zY] <;> rfl) | (simp [*, zq, zY] <;> rfl), (zb w)⟩
def xQ.f (a0_0 : Bool) (l0_1 : List Int) : Option (Int) := if (l0_1.length : Int) = 0 then (some 0) else (if a0_0 = true then (some (-1)) else (some 1))
theorem xQ.calls (a0_0 : Bool) (A0_1 : Option Addr) (c0_1 : Nat) (l0_1 : List Int) (r : Int) (w : World) (hr0_1 : Kd.C (Kd.int .i64) w A0_1 l0_1.length l0_1) (hc0_1 : l0_1.length ≤ c0_1) (h : xQ.f a0_0 l0_1 = some r) :
  Calls Tryz.prog 100 #[.agg #[.bool a0_0, .slice A0_1 l0_1.length c0_1]] w fun e w' => e = .returned (.int .i64 r) ∧ Below w.heap.size w w' := by
 have hu121 := Tryz.underlying121
 have HR0_1 := zQ.mk hr0_1
 have HC0_1 := zQ.mk hc0_1
 clear hr0_1 hc0_1
 have HB := zQ.mk (Below.refl w.heap.size w)
 have H := h
 unfold xQ.f at H
 clear h
 by_cases c2 : (l0_1.length : Int) = 0
 ·rw [if_pos c2] at H
  have c2b0 : ((l0_1.length : Int) == 0) = true := beq_iff_eq.mpr c2
  have c2b1 : ((l0_1.length : Int) != 0) = false := bne_eq_false_iff_eq.mpr c2
  clear c2
  obtain rfl := Option.some.inj H
  go_enter Tryz.func100, Tryz.ntmps100
  go_wp2_with (first | ((with_reducible refine gD 1 rfl ?_); refine bx w 1 #[.bool a0_0, .slice A0_1 l0_1.length c0_1] 121 ?_; intro gb257 hg w3 hb BK257 GW257 GE257; clear HB; intro HB; clear hb hg; obtain ⟨hcz4_0, hcz4_1, hfz4_0, hfz4_1⟩ := cz2 BK257))
  go_ret
  exact ⟨by first | rfl | (simp [zq, zY] <;> rfl) | (simp [*, zq, zY] <;> rfl), (zb w)⟩
 ·rw [if_neg c2] at H
  have c2b0 : ((l0_1.length : Int) == 0) = false := beq_eq_false_iff_ne.mpr c2
  have c2b1 : ((l0_1.length : Int) != 0) = true := bne_iff_ne.mpr c2
  have c2b2 : ¬ (l0_1 = []) := fun h_ => c2 (by rw [h_]; rfl)
  by_cases c5 : a0_0 = true
  ·subst c5
   have H1 : (some (-1)) = some r := by rw [if_pos rfl] at H; exact H
   clear H
   have H := H1
   clear H1
   obtain rfl := Option.some.inj H
   go_enter Tryz.func100, Tryz.ntmps100
   go_wp2_with (first | ((with_reducible refine gD 1 rfl ?_); refine bx w 1 #[.bool true, .slice A0_1 l0_1.length c0_1] 121 ?_; intro gb257 hg w6 hb BK257 GW257 GE257; clear HB; intro HB; clear hb hg; obtain ⟨hcz7_0, hcz7_1, hfz7_0, hfz7_1⟩ := cz2 BK257))
   go_ret
   exact ⟨by first | rfl | (simp [zq, zY] <;> rfl) | (simp [*, zq, zY] <;> rfl), (zb w)⟩
  ·replace c5 := Bool.eq_false_iff.mpr c5
   subst c5
   have H1 : (some 1) = some r := by rw [if_neg (show ¬ (false = true) by decide)] at H; exact H
   clear H
   have H := H1
   clear H1
   obtain rfl := Option.some.inj H
   go_enter Tryz.func100, Tryz.ntmps100
   go_wp2_with (first | ((with_reducible refine gD 1 rfl ?_); refine bx w 1 #[.bool false, .slice A0_1 l0_1.length c0_1] 121 ?_; intro gb257 hg w8 hb BK257 GW257 GE257; clear HB; intro HB; clear hb hg; obtain ⟨hcz9_0, hcz9_1, hfz9_0, hfz9_1⟩ := cz2 BK257))
   go_ret
   exact ⟨by first | rfl | (simp [zq, zY] <;> rfl) | (simp [*, zq, zY] <;> rfl), (zb w)⟩
def qz.l0 : Nat → List Int → List Int → Int → Option (Int)
 | 0, _, _, _ => none
 | k + 1, x0, x1, x5 => if x5 ≥ 0 then (if 0 ≤ x5 then (if x5 < (x0.length : Int) then (if x5 < (x1.length : Int) then (if (rd x0 x5) = (rd x1 x5) then (qz.l0 k x0 x1 (wrap64 (x5 - 1))) else (some (wrap64 ((rd x0 x5) - (rd x1 x5))))) else (none)) else (none)) else (none)) else (some 0)
def qz.f (k : Nat) (l0 : List Int) (l1 : List Int) : Option (Int) := if (l0.length : Int) = (l1.length : Int) then (qz.l0 k l0 l1 (wrap64 ((l0.length : Int) - 1))) else (some (wrap64 ((l0.length : Int) - (l1.length : Int))))
theorem qz.calls (k : Nat) (A0 : Option Addr) (c0 : Nat) (l0 : List Int) (A1 : Option Addr) (c1 : Nat) (l1 : List Int) (r : Int) (w : World) (hr0 : Kd.C (Kd.int .i64) w A0 l0.length l0) (hc0 : l0.length ≤ c0) (hr1 : Kd.C (Kd.int .i64) w A1 l1.length l1) (hc1 : l1.length ≤ c1) (h : qz.f k l0 l1 = some r) :
  Calls Tryz.prog 111 #[.slice A0 l0.length c0, .slice A1 l1.length c1] w fun e w' => e = .returned (.int .i64 r) ∧ Below w.heap.size w w' := by
 have HR0 := zQ.mk hr0
 have HC0 := zQ.mk hc0
 clear hr0 hc0
 have HR1 := zQ.mk hr1
 have HC1 := zQ.mk hc1
 clear hr1 hc1
 have HB := zQ.mk (Below.refl w.heap.size w)
 have H := h
 unfold qz.f at H
 clear h
 by_cases c3 : (l0.length : Int) = (l1.length : Int)
 ·rw [if_pos c3] at H
  have c3b0 : ((l0.length : Int) == (l1.length : Int)) = true := beq_iff_eq.mpr c3
  have c3b1 : ((l0.length : Int) != (l1.length : Int)) = false := bne_eq_false_iff_eq.mpr c3
  have c3b2 : (l0.length == l1.length) = true := by first | simpa using c3 | (simp at c3 ⊢; omega)
  clear c3
  have H' := zQ.mk H
  clear H
  go_enter Tryz.func111, Tryz.ntmps111
  go_wp2
  repeat (go_quiet (fail); try go_wp2)
  try simp only [sq]
  go_loopg [5] k (fun kq v5 w' => ∃ (x5_1 : Int), v5 = .int .i64 x5_1 ∧ zQ (qz.l0 kq l0 l1 x5_1 = some r) ∧ zQ (kq ≤ k) ∧ zQ (Below w.heap.size w w'))
  case atStart => exact ⟨(wrap64 ((l0.length : Int) - 1)), ar, H', ⟨Nat.le_refl _⟩, ⟨(zb w)⟩⟩
  case round =>
   clear H'
   try clear c1
   try clear p2
   try clear c3
   try clear c3b0
   try clear c3b1
   try clear c3b2
   obtain ⟨x5_1, rfl, HA, HK1, HB⟩ := hrel
   cases gk with
   | zero => exact absurd HA.out (by simp [qz.l0])
   | succ k1 =>
    have H := HA.out
    clear HA
    simp only [qz.l0] at H
    by_cases c4 : x5_1 ≥ 0
    ·rw [if_pos c4] at H
     have c4b0 : decide (0 ≤ x5_1) = true := decide_eq_true c4
     clear c4
     by_cases c5 : 0 ≤ x5_1
     ·rw [if_pos c5] at H
      have c5b0 : decide (0 ≤ x5_1) = true := decide_eq_true c5
      clear c5
      by_cases c6 : x5_1 < (l0.length : Int)
      ·rw [if_pos c6] at H
       have c6b0 : decide (x5_1 < (l0.length : Int)) = true := decide_eq_true c6
       clear c6
       by_cases c7 : x5_1 < (l1.length : Int)
       ·rw [if_pos c7] at H
        have c7b0 : decide (x5_1 < (l1.length : Int)) = true := decide_eq_true c7
        clear c7
        by_cases c8 : (rd l0 x5_1) = (rd l1 x5_1)
        ·rw [if_pos c8] at H
         have c8b0 : ((rd l0 x5_1) == (rd l1 x5_1)) = true := beq_iff_eq.mpr c8
         have c8b1 : ((rd l0 x5_1) != (rd l1 x5_1)) = false := bne_eq_false_iff_eq.mpr c8
         clear c8
         have H' := zQ.mk H
         clear H
         have p258 : 0 ≤ (x5_1 : Int) := of_decide_eq_true (by assumption)
         have q258 : x5_1 < (l0.length : Int) := of_decide_eq_true (by assumption)
         obtain ⟨ad258, e258, hx258_0⟩ := Kd.jy HR0.out x5_1 p258 q258
         cases e258
         replace hx258_0 := hz HB hx258_0
         replace p258 := eq_true p258
         replace q258 := eq_true q258
         have p259 : 0 ≤ (x5_1 : Int) := of_decide_eq_true (by assumption)
         have q259 : x5_1 < (l1.length : Int) := of_decide_eq_true (by assumption)
         obtain ⟨ad259, e259, hx259_0⟩ := Kd.jy HR1.out x5_1 p259 q259
         cases e259
         replace hx259_0 := hz HB hx259_0
         replace p259 := eq_true p259
         replace q259 := eq_true q259
         go_wp2
         repeat (go_quiet (fail); try go_wp2)
         go_roundg k1
         case measure => have := HK1.out; omega
         case rel => exact ⟨(wrap64 (x5_1 - 1)), ar, H', ⟨by have := HK1.out; omega⟩, ⟨(zb w)⟩⟩
        ·rw [if_neg c8] at H
         have c8b0 : ((rd l0 x5_1) == (rd l1 x5_1)) = false := beq_eq_false_iff_ne.mpr c8
         have c8b1 : ((rd l0 x5_1) != (rd l1 x5_1)) = true := bne_iff_ne.mpr c8
         obtain rfl := Option.some.inj H
         have p258 : 0 ≤ (x5_1 : Int) := of_decide_eq_true (by assumption)
         have q258 : x5_1 < (l0.length : Int) := of_decide_eq_true (by assumption)
         obtain ⟨ad258, e258, hx258_0⟩ := Kd.jy HR0.out x5_1 p258 q258
         cases e258
         replace hx258_0 := hz HB hx258_0
         replace p258 := eq_true p258
         replace q258 := eq_true q258
         have p259 : 0 ≤ (x5_1 : Int) := of_decide_eq_true (by assumption)
         have q259 : x5_1 < (l1.length : Int) := of_decide_eq_true (by assumption)
         obtain ⟨ad259, e259, hx259_0⟩ := Kd.jy HR1.out x5_1 p259 q259
         cases e259
         replace hx259_0 := hz HB hx259_0
         replace p259 := eq_true p259
         replace q259 := eq_true q259
         have p260 : 0 ≤ (x5_1 : Int) := of_decide_eq_true (by assumption)
         have q260 : x5_1 < (l0.length : Int) := of_decide_eq_true (by assumption)
         obtain ⟨ad260, e260, hx260_0⟩ := Kd.jy HR0.out x5_1 p260 q260
         obtain rfl : ad258 = ad260 := (by injection e260)
         replace hx260_0 := hz HB hx260_0
         replace p260 := eq_true p260
         replace q260 := eq_true q260
         have p261 : 0 ≤ (x5_1 : Int) := of_decide_eq_true (by assumption)
         have q261 : x5_1 < (l1.length : Int) := of_decide_eq_true (by assumption)
         obtain ⟨ad261, e261, hx261_0⟩ := Kd.jy HR1.out x5_1 p261 q261
         obtain rfl : ad259 = ad261 := (by injection e261)
         replace hx261_0 := hz HB hx261_0
         replace p261 := eq_true p261
         replace q261 := eq_true q261
         go_wp2
         repeat (go_quiet (fail); try go_wp2)
         go_ret
         exact ⟨by first | rfl | (simp [zq, zY] <;> rfl) | (simp [*, zq, zY] <;> rfl), (zb w)⟩
       ·rw [if_neg c7] at H
        exact absurd H (by simp)
      ·rw [if_neg c6] at H
       exact absurd H (by simp)
     ·rw [if_neg c5] at H
      exact absurd H (by simp)
    ·rw [if_neg c4] at H
     have c4b0 : decide (0 ≤ x5_1) = false := decide_eq_false c4
     clear c4
     obtain rfl := Option.some.inj H
     go_wp2
     repeat (go_quiet (fail); try go_wp2)
     go_ret
     exact ⟨by first | rfl | (simp [zq, zY] <;> rfl) | (simp [*, zq, zY] <;> rfl), (zb w)⟩
 ·rw [if_neg c3] at H
  have c3b0 : ((l0.length : Int) == (l1.length : Int)) = false := beq_eq_false_iff_ne.mpr c3
  have c3b1 : ((l0.length : Int) != (l1.length : Int)) = true := bne_iff_ne.mpr c3
  have c3b2 : (l0.length == l1.length) = false := by first | simpa using c3 | (simp at c3 ⊢; omega)
  obtain rfl := Option.some.inj H
  go_enter Tryz.func111, Tryz.ntmps111
  go_wp2
  repeat (go_quiet (fail); try go_wp2)
  go_ret
  exact ⟨by first | rfl | (simp [zq, zY] <;> rfl) | (simp [*, zq, zY] <;> rfl), (zb w)⟩
def qw.f (l0 : List Int) (a1 : Int) : Option (Int) := if a1 < (l0.length : Int) then (if 0 ≤ a1 then (some (rd l0 a1)) else (none)) else (some 0)
theorem qw.calls (A0 : Option Addr) (c0 : Nat) (l0 : List Int) (a1 : Int) (r : Int) (w : World) (hr0 : Kd.C (Kd.int .i64) w A0 l0.length l0) (hc0 : l0.length ≤ c0) (h : qw.f l0 a1 = some r) :
  Calls Tryz.prog 112 #[.slice A0 l0.length c0, .int .i64 a1] w fun e w' => e = .returned (.int .i64 r) ∧ Below w.heap.size w w' := by
 have HR0 := zQ.mk hr0
 have HC0 := zQ.mk hc0
 clear hr0 hc0
 have HB := zQ.mk (Below.refl w.heap.size w)
 have H := h
 unfold qw.f at H
 clear h
 by_cases c3 : a1 < (l0.length : Int)
 ·rw [if_pos c3] at H
  have c3b0 : decide (a1 < (l0.length : Int)) = true := decide_eq_true c3
  clear c3
  by_cases c4 : 0 ≤ a1
  ·rw [if_pos c4] at H
   have c4b0 : decide (0 ≤ a1) = true := decide_eq_true c4
   clear c4
   obtain rfl := Option.some.inj H
   have p262 : 0 ≤ (a1 : Int) := of_decide_eq_true (by assumption)
   have q262 : a1 < (l0.length : Int) := of_decide_eq_true (by assumption)
   obtain ⟨ad262, e262, hx262_0⟩ := Kd.jy HR0.out a1 p262 q262
   cases e262
   replace p262 := eq_true p262
   replace q262 := eq_true q262
   go_enter Tryz.func112, Tryz.ntmps112
   go_wp2
   go_ret
   exact ⟨by first | rfl | (simp [zq, zY] <;> rfl) | (simp [*, zq, zY] <;> rfl), (zb w)⟩
  ·rw [if_neg c4] at H
   exact absurd H (by simp)
 ·rw [if_neg c3] at H
  have c3b0 : decide (a1 < (l0.length : Int)) = false := decide_eq_false c3
  clear c3
  obtain rfl := Option.some.inj H
  go_enter Tryz.func112, Tryz.ntmps112
  go_wp2
  go_ret
  exact ⟨by first | rfl | (simp [zq, zY] <;> rfl) | (simp [*, zq, zY] <;> rfl), (zb w)⟩
def zM.l0 : Nat → Bool → List Int → Option (Bool × List Int)
 | 0, _, _ => none
 | k + 1, x264000, x264001 => if (x264001.length : Int) > 0 then (if 0 ≤ (wrap64 ((x264001.length : Int) - 1)) then (if (wrap64 ((x264001.length : Int) - 1)) < (x264001.length : Int) then (if (rd x264001 (wrap64 ((x264001.length : Int) - 1))) = 0 then (if (wrap64 ((x264001.length : Int) - 1)) ≤ (x264001.length : Int) then (zM.l0 k x264000 (x264001.take ((wrap64 ((x264001.length : Int) - 1)) : Int).toNat)) else (none)) else (if (x264001.length : Int) = 0 then (some (false, x264001)) else (some (x264000, x264001)))) else (none)) else (none)) else (if (x264001.length : Int) = 0 then (some (false, x264001)) else (some (x264000, x264001)))
def zM.f (k : Nat) (a0_0 : Bool) (l0_1 : List Int) : Option (Bool × List Int) := zM.l0 k a0_0 l0_1
theorem zM.calls (k : Nat) (a0_0 : Bool) (P0_1_ : Nat → Prop) (A0_1 : Option Addr) (c0_1 : Nat) (l0_1 : List Int) (r1 : Bool) (r2 : List Int) (w : World) (hs0_1 : Kd.V (Kd.int .i64) 3 w w.heap.size (fun k_ => P0_1_ k_) (.slice A0_1 l0_1.length c0_1) l0_1) (h : zM.f k a0_0 l0_1 = some (r1, r2)) :
  Calls Tryz.prog 113 #[.agg #[.bool a0_0, .slice A0_1 l0_1.length c0_1]] w fun e w' => ∃ v1_ : Value, e = .returned (.agg #[.bool r1, v1_]) ∧ Kd.V (Kd.int .i64) 3 w' w.heap.size (fun k_ => (P0_1_ k_ ∨ w.heap.size ≤ k_)) v1_ r2 ∧ Below w.heap.size w w' := by
 have hu121 := Tryz.underlying121
 have HO0_1 := zQ.mk (show Kd.V (Kd.int .i64) 3 w w.heap.size (fun k_ => (P0_1_ k_ ∨ w.heap.size ≤ k_)) (.slice A0_1 l0_1.length c0_1) l0_1 from Kd.zR hs0_1 (fun k_ hk => .inl hk))
 have HB := zQ.mk (Below.refl w.heap.size w)
 have H := h
 unfold zM.f at H
 clear h
 have H' := zQ.mk H
 clear H
 go_enter Tryz.func113, Tryz.ntmps113
 go_wp2_with (first | ((with_reducible refine gD 1 rfl ?_); (try (refine kw (by rfl) ?_; dsimp only)); refine jU ?hg (N := 1) ?hd (cs := #[.bool a0_0, .slice A0_1 l0_1.length c0_1]) (t := 121) ?hr ?_; (case hd => rfl); (case hg => rfl); (case hr => first | (go_simp; done) | (go_simp; rfl)); intro gb263 hg w2 hbox hb; replace HO0_1 := zQ.mk (Kd.qJ (Kd.jK (by (with_reducible repeat (first | apply Kd.V_alloc | apply Kd.V_drewN | apply Kd.zT)); exact HO0_1.out) gb263 (Nat.le_of_eq hg.symm)) hb); have BK263 := zQ.mk (hbox); have GW263 := zQ.mk ((by rw [hg]; exact (zy (zb w)) : w.heap.size ≤ gb263)); have GE263 := zQ.mk ((by rw [hg]; exact (zy (zb w)) : w.heap.size ≤ gb263)); replace HB := hs w hb; clear hb hg) | ((with_reducible refine gD 2 rfl ?_); (try (refine kw (by rfl) ?_; dsimp only)); refine jU ?hg (N := 2) ?hd (cs := #[.bool false, .slice none 0 0]) (t := 121) ?hr ?_; (case hd => rfl); (case hg => rfl); (case hr => first | (go_simp; done) | (go_simp; rfl)); intro gb264 hg w3 hbox hb; replace HO0_1 := zQ.mk (Kd.qJ (Kd.jK (by (with_reducible repeat (first | apply Kd.V_alloc | apply Kd.V_drewN | apply Kd.zT)); exact HO0_1.out) gb264 (Nat.le_of_eq hg.symm)) hb); have BK264 := zQ.mk (hbox); have GW264 := zQ.mk ((by rw [hg]; exact (zy (zb w)) : w.heap.size ≤ gb264)); have GE264 := zQ.mk ((by rw [hg]; exact (zy (zb w)) : w.heap.size ≤ gb264)); replace HB := hs w hb; have NB263_264 := nbl BK263 hg; have NB264_263 := nbr BK263 hg; replace BK263 := bb BK263 hb; clear hb hg))
 try simp only [sq]
 go_loopg [] k (fun kq w' => ∃ (x264001_1 : List Int) (u264001 : Value), zQ (zM.l0 kq a0_0 x264001_1 = some (r1, r2)) ∧ zQ (kq ≤ k) ∧ zQ (Kd.V (Kd.int .i64) 3 w' w.heap.size (fun k_ => (P0_1_ k_ ∨ w.heap.size ≤ k_) ∧ k_ ≠ gb263 ∧ k_ ≠ gb264) u264001 x264001_1) ∧ zQ (w'.heap[gb263]? = some (.cells #[.bool a0_0, u264001] 121 (0, 0))) ∧ zQ (w'.heap[gb264]? = some (.cells #[.bool false, (.slice none 0 0)] 121 (0, 0))) ∧ zQ (Below w.heap.size w w'))
 case atStart => exact ⟨(l0_1), (.slice A0_1 l0_1.length c0_1), H', ⟨Nat.le_refl _⟩, ⟨by (with_reducible repeat (first | apply Kd.V_alloc | apply Kd.V_drewN | apply Kd.zT)); exact Kd.zR HO0_1.out (fun _ hk => ⟨hk.1.1, ⟨hk.1.2, hk.2⟩⟩)⟩, ⟨(zk BK263)⟩, ⟨(zk BK264)⟩, ⟨(zb w)⟩⟩
 case round =>
  clear H'
  try clear c1
  try clear p2
  obtain ⟨x264001_1, u264001, HA, HK1, HO_264001, BK263, BK264, HB⟩ := hrel
  cases gk with
  | zero => exact absurd HA.out (by simp [zM.l0])
  | succ k1 =>
   have H := HA.out
   clear HA
   simp only [zM.l0] at H
   by_cases c4 : (x264001_1.length : Int) > 0
   ·rw [if_pos c4] at H
    have c4b0 : decide (0 < (x264001_1.length : Int)) = true := decide_eq_true c4
    have c4b1 : decide (0 < x264001_1.length) = true := decide_eq_true (by omega)
    clear c4
    obtain ⟨ji5, hji5⟩ : ∃ j_ : Int, (wrap64 ((x264001_1.length : Int) - 1)) = j_ := ⟨_, rfl⟩
    replace H : (if 0 ≤ (ji5) then (if (ji5) < (x264001_1.length : Int) then (if (rd x264001_1 (ji5)) = 0 then (if (ji5) ≤ (x264001_1.length : Int) then (zM.l0 k1 a0_0 (x264001_1.take ((ji5) : Int).toNat)) else (none)) else (if (x264001_1.length : Int) = 0 then (some (false, x264001_1)) else (some (a0_0, x264001_1)))) else (none)) else (none)) = some (r1, r2) := by first | (rw [hji5] at H; exact H) | (simp only [hji5] at H ⊢; exact H)
    have hji5w : (IntKind.i64.wrap ((x264001_1.length : Int) - 1)) = ji5 := (jw _).trans hji5
    by_cases c6 : 0 ≤ (ji5)
    ·rw [if_pos c6] at H
     have c6b0 : decide (0 ≤ (ji5)) = true := decide_eq_true c6
     clear c6
     by_cases c7 : (ji5) < (x264001_1.length : Int)
     ·rw [if_pos c7] at H
      have c7b0 : decide ((ji5) < (x264001_1.length : Int)) = true := decide_eq_true c7
      clear c7
      by_cases c8 : (rd x264001_1 (ji5)) = 0
      ·rw [if_pos c8] at H
       have c8b0 : ((rd x264001_1 (ji5)) == 0) = true := beq_iff_eq.mpr c8
       have c8b1 : ((rd x264001_1 (ji5)) != 0) = false := bne_eq_false_iff_eq.mpr c8
       clear c8
       have c9b0 := eq_true (of_decide_eq_true (by assumption) : 0 ≤ (ji5))
       by_cases c10 : (ji5) ≤ (x264001_1.length : Int)
       ·rw [if_pos c10] at H
        have c10b0 := eq_true c10
        have c10b1 : decide ((ji5) ≤ (x264001_1.length : Int)) = true := decide_eq_true c10
        clear c10
        obtain ⟨y266, hy266⟩ : ∃ y_ : List Int, y_ = (x264001_1.take ((ji5) : Int).toNat) := ⟨_, rfl⟩
        replace H : (zM.l0 k1 a0_0 y266) = some (r1, r2) := by first | (rw [hy266]; with_reducible exact H) | (have H2_ := (Option.bind_some _ _).symm.trans H; rw [hy266]; with_reducible exact H2_) | (have H2_ := (Option.bind_some _ _).symm.trans H; with_reducible exact H2_) | with_reducible exact H | (rw [hy266]; exact H) | exact H
        have Ny266 := zQ.mk hy266
        clear hy266
        have H' := zQ.mk H
        clear H
        have hnb11 := NB263_264.out
        have hnc11 := NB264_263.out
        obtain ⟨hcz12_0, hcz12_1, hfz12_0, hfz12_1⟩ := cz2 BK263
        obtain ⟨Ao13, co13, eo13⟩ := Kd.jW HO_264001.out
        subst eo13
        have p265 : 0 ≤ ((ji5) : Int) := of_decide_eq_true (by assumption)
        have q265 : (ji5) < (x264001_1.length : Int) := of_decide_eq_true (by assumption)
        obtain ⟨ad265, e265, hx265_0⟩ := Kd.jy (Kd.qC HO_264001.out).2.2 (ji5) p265 q265
        cases e265
        replace p265 := eq_true p265
        replace q265 := eq_true q265
        have q14 : ((ji5) : Int) ≤ ((x264001_1.length : Int) : Int) := of_decide_eq_true (by assumption)
        obtain ⟨i014, hi014, _, hsz14, _⟩ := info_parts info3
        have hroom14 : x264001_1.length ≤ co13 := (Kd.qC HO_264001.out).2.1
        have hC14 : Kd.F (Kd.int .i64) _ _ (some ad265) x264001_1.length x264001_1 := (Kd.V_at (base := w.heap.size) HO_264001.out).2.2
        have hcut14 := cut_to (P := Tryz.prog) 39 3 .i64 Tryz.underlying39 hi014 (some ad265) x264001_1.length co13 (ji5) (of_decide_eq_true (by assumption)) q14 hroom14
        have hr14 := Kd.F_take (m := ((ji5) : Int).toNat) hC14 (by omega)
        have hy14 : y266.length = ((ji5) : Int).toNat := (by rw [Ny266.out, List.length_take]; omega)
        rw [← Ny266.out] at hr14
        rw [← hy14] at hcut14
        have HO270 := zQ.mk (show Kd.V (Kd.int .i64) 3 _ w.heap.size _ (.slice (some ad265) y266.length co13) y266 from Kd.V_mk (by omega) hr14)
        have HC270 := zQ.mk (show y266.length ≤ co13 from by omega)
        clear hr14 hC14 hroom14 hi014 hsz14
        have KY14 := zQ.mk hy14
        clear hy14
        replace q14 := eq_true q14
        go_wp2
        go_roundg k1
        case measure => have := HK1.out; omega
        case rel => exact ⟨(y266), (.slice (some ad265) y266.length co13), H', ⟨by have := HK1.out; omega⟩, ⟨by (with_reducible repeat (first | apply Kd.V_alloc | apply Kd.V_drewN | apply Kd.zT)); exact Kd.zR (Kd.qL (p := ⟨gb263, 1, none⟩) (Kd.zR HO270.out (fun k_ hk => (⟨hk, hk.2.1⟩ : _ ∧ k_ ≠ gb263))) (fun _ hk => hk.2) (.slice (some ad265) y266.length co13)) (fun _ hk => ⟨hk.1.1, ⟨hk.1.2.1, hk.1.2.2⟩⟩)⟩, ⟨by (with_reducible repeat (first | refine zJ ?_ _ | refine zK ?_ | refine zZ ?_ _)); refine zL (cs := #[.bool a0_0, .slice (some ad265) x264001_1.length co13]) ?_ 1 _ rfl; exact zk BK263⟩, ⟨by (with_reducible repeat (first | refine zJ ?_ _ | refine zK ?_ | refine zZ ?_ _)); refine zF ?_ NB264_263.out _; exact zk BK264⟩, ⟨(zb w)⟩⟩
       ·rw [if_neg c10] at H
        exact absurd H (by simp)
      ·rw [if_neg c8] at H
       have c8b0 : ((rd x264001_1 (ji5)) == 0) = false := beq_eq_false_iff_ne.mpr c8
       have c8b1 : ((rd x264001_1 (ji5)) != 0) = true := bne_iff_ne.mpr c8
       by_cases c15 : (x264001_1.length : Int) = 0
       ·rw [if_pos c15] at H
        have c15b0 : ((x264001_1.length : Int) == 0) = true := beq_iff_eq.mpr c15
        have c15b1 : ((x264001_1.length : Int) != 0) = false := bne_eq_false_iff_eq.mpr c15
        clear c15
        simp only [Option.some.injEq, Prod.mk.injEq] at H
        obtain ⟨rfl, rfl⟩ := H
        have hnb16 := NB263_264.out
        have hnc16 := NB264_263.out
        obtain ⟨hcz17_0, hcz17_1, hfz17_0, hfz17_1⟩ := cz2 BK263
        obtain ⟨Ao18, co18, eo18⟩ := Kd.jW HO_264001.out
        subst eo18
        have p265 : 0 ≤ ((ji5) : Int) := of_decide_eq_true (by assumption)
        have q265 : (ji5) < (x264001_1.length : Int) := of_decide_eq_true (by assumption)
        obtain ⟨ad265, e265, hx265_0⟩ := Kd.jy (Kd.qC HO_264001.out).2.2 (ji5) p265 q265
        cases e265
        replace p265 := eq_true p265
        replace q265 := eq_true q265
        obtain ⟨hcz19_0, hcz19_1, hfz19_0, hfz19_1⟩ := cz2 BK264
        go_wp2
        refine bodyPost_ret (results_cell_row rfl _ _ gb264 121 #[.bool false, .slice (some ad265) x264001_1.length co18] (0, 0) _ rfl (by (with_reducible repeat (first | refine zJ ?_ _ | refine zK ?_ | refine zZ ?_ _)); refine zL (cs := #[.bool false, .slice none 0 0]) ?_ 1 _ rfl; (with_reducible repeat (first | refine zJ ?_ _ | refine zK ?_ | refine zZ ?_ _)); refine zL (cs := #[.bool false, .slice none 0 0]) ?_ 0 _ rfl; (with_reducible repeat (first | refine zJ ?_ _ | refine zK ?_ | refine zZ ?_ _)); refine zF ?_ NB264_263.out _; exact zk BK264) Tryz.underlying121 rfl (by kernel_rfl)) rfl ?_
        exact ⟨_, by first | rfl | (simp [zq, zY] <;> rfl) | (simp only [← hji5]; first | rfl | (simp [zq, zY] <;> rfl)) | (simp [*, zq, zY] <;> rfl), by (with_reducible repeat (first | apply Kd.V_alloc | apply Kd.V_drewN | apply Kd.zT)); exact Kd.zR (Kd.qL (p := ⟨gb264, 1, none⟩) (Kd.qL (p := ⟨gb264, 0, none⟩) (Kd.qL (p := ⟨gb263, 0, none⟩) (Kd.zR (Kd.zR HO_264001.out (fun k_ hk => (⟨hk, hk.2.1⟩ : _ ∧ k_ ≠ gb263))) (fun k_ hk => (⟨hk, hk.1.2.2⟩ : _ ∧ k_ ≠ gb264))) (fun _ hk => hk.1.2) (.bool false)) (fun _ hk => hk.2) (.bool false)) (fun _ hk => hk.2) (.slice (some ad265) x264001_1.length co18)) (fun _ hk => hk.1.1.1), (zb w)⟩
       ·rw [if_neg c15] at H
        have c15b0 : ((x264001_1.length : Int) == 0) = false := beq_eq_false_iff_ne.mpr c15
        have c15b1 : ((x264001_1.length : Int) != 0) = true := bne_iff_ne.mpr c15
        have c15b2 : ¬ (x264001_1 = []) := fun h_ => c15 (by rw [h_]; rfl)
        simp only [Option.some.injEq, Prod.mk.injEq] at H
        obtain ⟨rfl, rfl⟩ := H
        have hnb20 := NB263_264.out
        have hnc20 := NB264_263.out
        obtain ⟨hcz21_0, hcz21_1, hfz21_0, hfz21_1⟩ := cz2 BK263
        obtain ⟨Ao22, co22, eo22⟩ := Kd.jW HO_264001.out
        subst eo22
        have p265 : 0 ≤ ((ji5) : Int) := of_decide_eq_true (by assumption)
        have q265 : (ji5) < (x264001_1.length : Int) := of_decide_eq_true (by assumption)
        obtain ⟨ad265, e265, hx265_0⟩ := Kd.jy (Kd.qC HO_264001.out).2.2 (ji5) p265 q265
        cases e265
        replace p265 := eq_true p265
        replace q265 := eq_true q265
        obtain ⟨hcz23_0, hcz23_1, hfz23_0, hfz23_1⟩ := cz2 BK264
        go_wp2
        refine bodyPost_ret (results_cell_row rfl _ _ gb264 121 #[.bool a0_0, .slice (some ad265) x264001_1.length co22] (0, 0) _ rfl (by (with_reducible repeat (first | refine zJ ?_ _ | refine zK ?_ | refine zZ ?_ _)); refine zL (cs := #[.bool a0_0, .slice none 0 0]) ?_ 1 _ rfl; (with_reducible repeat (first | refine zJ ?_ _ | refine zK ?_ | refine zZ ?_ _)); refine zL (cs := #[.bool false, .slice none 0 0]) ?_ 0 _ rfl; exact zk BK264) Tryz.underlying121 rfl (by kernel_rfl)) rfl ?_
        exact ⟨_, by first | rfl | (simp [zq, zY] <;> rfl) | (simp only [← hji5]; first | rfl | (simp [zq, zY] <;> rfl)) | (simp [*, zq, zY] <;> rfl), by (with_reducible repeat (first | apply Kd.V_alloc | apply Kd.V_drewN | apply Kd.zT)); exact Kd.zR (Kd.qL (p := ⟨gb264, 1, none⟩) (Kd.qL (p := ⟨gb264, 0, none⟩) (Kd.zR HO_264001.out (fun k_ hk => (⟨hk, hk.2.2⟩ : _ ∧ k_ ≠ gb264))) (fun _ hk => hk.2) (.bool a0_0)) (fun _ hk => hk.2) (.slice (some ad265) x264001_1.length co22)) (fun _ hk => hk.1.1), (zb w)⟩
     ·rw [if_neg c7] at H
      exact absurd H (by simp)
    ·rw [if_neg c6] at H
     exact absurd H (by simp)
   ·rw [if_neg c4] at H
    have c4b0 : decide (0 < (x264001_1.length : Int)) = false := decide_eq_false c4
    have c4b1 : decide (0 < x264001_1.length) = false := decide_eq_false (by omega)
    clear c4
    by_cases c24 : (x264001_1.length : Int) = 0
    ·rw [if_pos c24] at H
     have c24b0 : ((x264001_1.length : Int) == 0) = true := beq_iff_eq.mpr c24
     have c24b1 : ((x264001_1.length : Int) != 0) = false := bne_eq_false_iff_eq.mpr c24
     clear c24
     simp only [Option.some.injEq, Prod.mk.injEq] at H
     obtain ⟨rfl, rfl⟩ := H
     have hnb25 := NB263_264.out
     have hnc25 := NB264_263.out
     obtain ⟨hcz26_0, hcz26_1, hfz26_0, hfz26_1⟩ := cz2 BK263
     obtain ⟨Ao27, co27, eo27⟩ := Kd.jW HO_264001.out
     subst eo27
     obtain ⟨hcz28_0, hcz28_1, hfz28_0, hfz28_1⟩ := cz2 BK264
     go_wp2
     refine bodyPost_ret (results_cell_row rfl _ _ gb264 121 #[.bool false, .slice Ao27 x264001_1.length co27] (0, 0) _ rfl (by (with_reducible repeat (first | refine zJ ?_ _ | refine zK ?_ | refine zZ ?_ _)); refine zL (cs := #[.bool false, .slice none 0 0]) ?_ 1 _ rfl; (with_reducible repeat (first | refine zJ ?_ _ | refine zK ?_ | refine zZ ?_ _)); refine zL (cs := #[.bool false, .slice none 0 0]) ?_ 0 _ rfl; (with_reducible repeat (first | refine zJ ?_ _ | refine zK ?_ | refine zZ ?_ _)); refine zF ?_ NB264_263.out _; exact zk BK264) Tryz.underlying121 rfl (by kernel_rfl)) rfl ?_
     exact ⟨_, by first | rfl | (simp [zq, zY] <;> rfl) | (simp [*, zq, zY] <;> rfl), by (with_reducible repeat (first | apply Kd.V_alloc | apply Kd.V_drewN | apply Kd.zT)); exact Kd.zR (Kd.qL (p := ⟨gb264, 1, none⟩) (Kd.qL (p := ⟨gb264, 0, none⟩) (Kd.qL (p := ⟨gb263, 0, none⟩) (Kd.zR (Kd.zR HO_264001.out (fun k_ hk => (⟨hk, hk.2.1⟩ : _ ∧ k_ ≠ gb263))) (fun k_ hk => (⟨hk, hk.1.2.2⟩ : _ ∧ k_ ≠ gb264))) (fun _ hk => hk.1.2) (.bool false)) (fun _ hk => hk.2) (.bool false)) (fun _ hk => hk.2) (.slice Ao27 x264001_1.length co27)) (fun _ hk => hk.1.1.1), (zb w)⟩
    ·rw [if_neg c24] at H
     have c24b0 : ((x264001_1.length : Int) == 0) = false := beq_eq_false_iff_ne.mpr c24
     have c24b1 : ((x264001_1.length : Int) != 0) = true := bne_iff_ne.mpr c24
     have c24b2 : ¬ (x264001_1 = []) := fun h_ => c24 (by rw [h_]; rfl)
     simp only [Option.some.injEq, Prod.mk.injEq] at H
     obtain ⟨rfl, rfl⟩ := H
     have hnb29 := NB263_264.out
     have hnc29 := NB264_263.out
     obtain ⟨hcz30_0, hcz30_1, hfz30_0, hfz30_1⟩ := cz2 BK263
     obtain ⟨Ao31, co31, eo31⟩ := Kd.jW HO_264001.out
     subst eo31
     obtain ⟨hcz32_0, hcz32_1, hfz32_0, hfz32_1⟩ := cz2 BK264
     go_wp2
     refine bodyPost_ret (results_cell_row rfl _ _ gb264 121 #[.bool a0_0, .slice Ao31 x264001_1.length co31] (0, 0) _ rfl (by (with_reducible repeat (first | refine zJ ?_ _ | refine zK ?_ | refine zZ ?_ _)); refine zL (cs := #[.bool a0_0, .slice none 0 0]) ?_ 1 _ rfl; (with_reducible repeat (first | refine zJ ?_ _ | refine zK ?_ | refine zZ ?_ _)); refine zL (cs := #[.bool false, .slice none 0 0]) ?_ 0 _ rfl; exact zk BK264) Tryz.underlying121 rfl (by kernel_rfl)) rfl ?_
     exact ⟨_, by first | rfl | (simp [zq, zY] <;> rfl) | (simp [*, zq, zY] <;> rfl), by (with_reducible repeat (first | apply Kd.V_alloc | apply Kd.V_drewN | apply Kd.zT)); exact Kd.zR (Kd.qL (p := ⟨gb264, 1, none⟩) (Kd.qL (p := ⟨gb264, 0, none⟩) (Kd.zR HO_264001.out (fun k_ hk => (⟨hk, hk.2.2⟩ : _ ∧ k_ ≠ gb264))) (fun _ hk => hk.2) (.bool a0_0)) (fun _ hk => hk.2) (.slice Ao31 x264001_1.length co31)) (fun _ hk => hk.1.1), (zb w)⟩
end Go.Proofs.YtaihfoihlbileaaGreatDoor.R7
