-- Made by a program of this session out of the translation (wip/pp.py): functions, contracts.
import Derived.Test.YtaihfoihlbileaaDoorR4x0
namespace Go.Proofs.YtaihfoihlbileaaDoor.R4
open Go.RowKit Go.Proofs.YtaihfoihlbileaaDoorW.PrintWords Go.Proofs.YtaihfoihlbileaaDoorW.PrintLast Go.Proofs.YtaihfoihlbileaaDoorW.PrintMore
attribute [local go_sem] max2_int min2_int max_two min_two max_three min_three max_four min_four   -- for this text's walks alone
set_option linter.unusedVariables false
set_option linter.unusedSimpArgs false

/-! ### interchangeref1_trimmed: function 35 -/
def interchangeref1_trimmed.l0 : Nat → Bool → List Int → Option (Bool × List Int)
 | 0, _, _ => none
 | k + 1, x263000, x263001 => if (x263001.length : Int) > 0 then (if 0 ≤ (wrap64 ((x263001.length : Int) - 1)) then (if (wrap64 ((x263001.length : Int) - 1)) < (x263001.length : Int) then (if (rd x263001 (wrap64 ((x263001.length : Int) - 1))) = 0 then (if (wrap64 ((x263001.length : Int) - 1)) ≤ (x263001.length : Int) then (interchangeref1_trimmed.l0 k x263000 (x263001.take ((wrap64 ((x263001.length : Int) - 1)) : Int).toNat)) else (none)) else (if (x263001.length : Int) = 0 then (some (false, x263001)) else (some (x263000, x263001)))) else (none)) else (none)) else (if (x263001.length : Int) = 0 then (some (false, x263001)) else (some (x263000, x263001)))
def interchangeref1_trimmed.f (k : Nat) (a0_0 : Bool) (l0_1 : List Int) : Option (Bool × List Int) := interchangeref1_trimmed.l0 k a0_0 l0_1
theorem interchangeref1_trimmed.mono_l : ∀ k, (∀ y0 y1, LeO (interchangeref1_trimmed.l0 k y0 y1) (interchangeref1_trimmed.l0 (k + 1) y0 y1))
 | 0 => fun _ _ r h => by simp [interchangeref1_trimmed.l0] at h
 | k + 1 => by
  have ih0 := interchangeref1_trimmed.mono_l k
  ·intro y0 y1
   unfold interchangeref1_trimmed.l0
   repeat' first | with_reducible first | exact ih0 _ _ | exact lr _ | exact ln _ | refine li ?_ ?_ | refine lb ?_ fun _ => ?_ | exact ih0 _ _ | exact ln _ | refine li ?_ ?_ | refine lb ?_ fun _ => ?_
theorem interchangeref1_trimmed.mono : ∀ a0 a1 k, LeO (interchangeref1_trimmed.f k a0 a1) (interchangeref1_trimmed.f (k + 1) a0 a1) := by
 intro a0 a1 k
 have ih0 := interchangeref1_trimmed.mono_l k
 unfold interchangeref1_trimmed.f
 repeat' first | with_reducible first | exact ih0 _ _ | exact lr _ | exact ln _ | refine li ?_ ?_ | refine lb ?_ fun _ => ?_ | exact ih0 _ _ | exact ln _ | refine li ?_ ?_ | refine lb ?_ fun _ => ?_
set_option maxHeartbeats 8000000 in
set_option maxRecDepth 100000 in
theorem interchangeref1_trimmed.calls (k : Nat) (a0_0 : Bool) (P0_1_ : Nat → Prop) (A0_1 : Option Addr) (c0_1 : Nat) (l0_1 : List Int) (r1 : Bool) (r2 : List Int) (w : World) (hs0_1 : Kd.V (Kd.int .i64) 3 w w.heap.size (fun k_ => P0_1_ k_) (.slice A0_1 l0_1.length c0_1) l0_1) (h : interchangeref1_trimmed.f k a0_0 l0_1 = some (r1, r2)) :
  Calls Tryd.prog 35 #[.agg #[.bool a0_0, .slice A0_1 l0_1.length c0_1]] w fun e w' => ∃ v1_ : Value, e = .returned (.agg #[.bool r1, v1_]) ∧ Kd.V (Kd.int .i64) 3 w' w.heap.size (fun k_ => (P0_1_ k_ ∨ w.heap.size ≤ k_)) v1_ r2 ∧ Below w.heap.size w w' := by
 have hu40 := Tryd.underlying40
 have HO0_1 := Aside0.mk (show Kd.V (Kd.int .i64) 3 w w.heap.size (fun k_ => (P0_1_ k_ ∨ w.heap.size ≤ k_)) (.slice A0_1 l0_1.length c0_1) l0_1 from Kd.V_mono hs0_1 (fun k_ hk => .inl hk))
 have HB := Aside0.mk (Below.refl w.heap.size w)
 have H := h
 unfold interchangeref1_trimmed.f at H
 clear h
 have H' := Aside0.mk H
 clear H
 go_enter Tryd.func35, Tryd.ntmps35
 go_wp2_with (first | ((with_reducible refine gD 1 rfl ?_); (try (refine gate_guard (by rfl) ?_; dsimp only)); refine box_event ?hg (N := 1) ?hd (cs := #[.bool a0_0, .slice A0_1 l0_1.length c0_1]) (t := 40) ?hr ?_; (case hd => rfl); (case hg => rfl); (case hr => first | (go_simp; done) | (go_simp; rfl)); intro gb262 hg w2 hbox hb; replace HO0_1 := Aside0.mk (Kd.V_below (Kd.V_elderB (by (with_reducible repeat (first | apply Kd.V_alloc | apply Kd.V_drewN | apply Kd.V_drew)); exact HO0_1.out) gb262 (Nat.le_of_eq hg.symm)) hb); have BK262 := Aside0.mk (hbox); have GW262 := Aside0.mk ((by rw [hg]; exact (below_size (zb w)) : w.heap.size ≤ gb262)); have GE262 := Aside0.mk ((by rw [hg]; exact (below_size (zb w)) : w.heap.size ≤ gb262)); replace HB := hs w hb; clear hb hg) | ((with_reducible refine gD 2 rfl ?_); (try (refine gate_guard (by rfl) ?_; dsimp only)); refine box_event ?hg (N := 2) ?hd (cs := #[.bool false, .slice none 0 0]) (t := 40) ?hr ?_; (case hd => rfl); (case hg => rfl); (case hr => first | (go_simp; done) | (go_simp; rfl)); intro gb263 hg w3 hbox hb; replace HO0_1 := Aside0.mk (Kd.V_below (Kd.V_elderB (by (with_reducible repeat (first | apply Kd.V_alloc | apply Kd.V_drewN | apply Kd.V_drew)); exact HO0_1.out) gb263 (Nat.le_of_eq hg.symm)) hb); have BK263 := Aside0.mk (hbox); have GW263 := Aside0.mk ((by rw [hg]; exact (below_size (zb w)) : w.heap.size ≤ gb263)); have GE263 := Aside0.mk ((by rw [hg]; exact (below_size (zb w)) : w.heap.size ≤ gb263)); replace HB := hs w hb; have NB262_263 := nbl BK262 hg; have NB263_262 := nbr BK262 hg; replace BK262 := bb BK262 hb; clear hb hg))
 try simp only [sq]
 go_loopg [] k (fun kq w' => ∃ (x263001_1 : List Int) (u263001 : Value), Aside0 (interchangeref1_trimmed.l0 kq a0_0 x263001_1 = some (r1, r2)) ∧ Aside0 (kq ≤ k) ∧ Aside0 (Kd.V (Kd.int .i64) 3 w' w.heap.size (fun k_ => (P0_1_ k_ ∨ w.heap.size ≤ k_) ∧ k_ ≠ gb262 ∧ k_ ≠ gb263) u263001 x263001_1) ∧ Aside0 (w'.heap[gb262]? = some (.cells #[.bool a0_0, u263001] 40 (0, 0))) ∧ Aside0 (w'.heap[gb263]? = some (.cells #[.bool false, (.slice none 0 0)] 40 (0, 0))) ∧ Aside0 (Below w.heap.size w w'))
 case atStart => exact ⟨(l0_1), (.slice A0_1 l0_1.length c0_1), H', ⟨Nat.le_refl _⟩, ⟨by (with_reducible repeat (first | apply Kd.V_alloc | apply Kd.V_drewN | apply Kd.V_drew)); exact Kd.V_mono HO0_1.out (fun _ hk => ⟨hk.1.1, ⟨hk.1.2, hk.2⟩⟩)⟩, ⟨(zk BK262)⟩, ⟨(zk BK263)⟩, ⟨(zb w)⟩⟩
 case round =>
  clear H'
  try clear p2
  try clear c3
  obtain ⟨x263001_1, u263001, HA, HK1, HO_263001, BK262, BK263, HB⟩ := hrel
  cases gk with
  | zero => exact absurd HA.out (by simp [interchangeref1_trimmed.l0])
  | succ k1 =>
   have H := HA.out
   clear HA
   simp only [interchangeref1_trimmed.l0] at H
   by_cases c4 : (x263001_1.length : Int) > 0
   ·rw [if_pos c4] at H
    have c4b0 : decide (0 < (x263001_1.length : Int)) = true := decide_eq_true c4
    have c4b1 : decide (0 < x263001_1.length) = true := decide_eq_true (by omega)
    clear c4
    obtain ⟨ji5, hji5⟩ : ∃ j_ : Int, (wrap64 ((x263001_1.length : Int) - 1)) = j_ := ⟨_, rfl⟩
    replace H : (if 0 ≤ (ji5) then (if (ji5) < (x263001_1.length : Int) then (if (rd x263001_1 (ji5)) = 0 then (if (ji5) ≤ (x263001_1.length : Int) then (interchangeref1_trimmed.l0 k1 a0_0 (x263001_1.take ((ji5) : Int).toNat)) else (none)) else (if (x263001_1.length : Int) = 0 then (some (false, x263001_1)) else (some (a0_0, x263001_1)))) else (none)) else (none)) = some (r1, r2) := by first | (rw [hji5] at H; exact H) | (simp only [hji5] at H ⊢; exact H)
    have hji5w : (IntKind.i64.wrap ((x263001_1.length : Int) - 1)) = ji5 := (i64_w _).trans hji5
    by_cases c6 : 0 ≤ (ji5)
    ·rw [if_pos c6] at H
     have c6b0 : decide (0 ≤ (ji5)) = true := decide_eq_true c6
     clear c6
     by_cases c7 : (ji5) < (x263001_1.length : Int)
     ·rw [if_pos c7] at H
      have c7b0 : decide ((ji5) < (x263001_1.length : Int)) = true := decide_eq_true c7
      clear c7
      by_cases c8 : (rd x263001_1 (ji5)) = 0
      ·rw [if_pos c8] at H
       have c8b0 : ((rd x263001_1 (ji5)) == 0) = true := beq_iff_eq.mpr c8
       have c8b1 : ((rd x263001_1 (ji5)) != 0) = false := bne_eq_false_iff_eq.mpr c8
       clear c8
       have c9b0 := eq_true (of_decide_eq_true (by assumption) : 0 ≤ (ji5))
       by_cases c10 : (ji5) ≤ (x263001_1.length : Int)
       ·rw [if_pos c10] at H
        have c10b0 := eq_true c10
        have c10b1 : decide ((ji5) ≤ (x263001_1.length : Int)) = true := decide_eq_true c10
        clear c10
        obtain ⟨y265, hy265⟩ : ∃ y_ : List Int, y_ = (x263001_1.take ((ji5) : Int).toNat) := ⟨_, rfl⟩
        replace H : (interchangeref1_trimmed.l0 k1 a0_0 y265) = some (r1, r2) := by first | (rw [hy265]; with_reducible exact H) | (have H2_ := (Option.bind_some _ _).symm.trans H; rw [hy265]; with_reducible exact H2_) | (have H2_ := (Option.bind_some _ _).symm.trans H; with_reducible exact H2_) | with_reducible exact H | (rw [hy265]; exact H) | exact H
        have Ny265 := Aside0.mk hy265
        clear hy265
        have H' := Aside0.mk H
        clear H
        have hnb11 := NB262_263.out
        have hnc11 := NB263_262.out
        obtain ⟨hcz12_0, hcz12_1, hfz12_0, hfz12_1⟩ := cz2 BK262
        obtain ⟨Ao13, co13, eo13⟩ := Kd.V_slice HO_263001.out
        subst eo13
        have p264 : 0 ≤ ((ji5) : Int) := of_decide_eq_true (by assumption)
        have q264 : (ji5) < (x263001_1.length : Int) := of_decide_eq_true (by assumption)
        obtain ⟨ad264, e264, hx264_0⟩ := Kd.at_int (Kd.V_reads' HO_263001.out).2.2 (ji5) p264 q264
        cases e264
        replace p264 := eq_true p264
        replace q264 := eq_true q264
        have q14 : ((ji5) : Int) ≤ ((x263001_1.length : Int) : Int) := of_decide_eq_true (by assumption)
        obtain ⟨i014, hi014, _, hsz14, _⟩ := info_parts info3
        have hroom14 : x263001_1.length ≤ co13 := (Kd.V_reads' HO_263001.out).2.1
        have hC14 : Kd.F (Kd.int .i64) _ _ (some ad264) x263001_1.length x263001_1 := (Kd.V_at (base := w.heap.size) HO_263001.out).2.2
        have hcut14 := cut_to (P := Tryd.prog) 38 3 .i64 Tryd.underlying38 hi014 (some ad264) x263001_1.length co13 (ji5) (of_decide_eq_true (by assumption)) q14 hroom14
        have hr14 := Kd.F_take (m := ((ji5) : Int).toNat) hC14 (by omega)
        have hy14 : y265.length = ((ji5) : Int).toNat := (by rw [Ny265.out, List.length_take]; omega)
        rw [← Ny265.out] at hr14
        rw [← hy14] at hcut14
        have HO269 := Aside0.mk (show Kd.V (Kd.int .i64) 3 _ w.heap.size _ (.slice (some ad264) y265.length co13) y265 from Kd.V_mk (by omega) hr14)
        have HC269 := Aside0.mk (show y265.length ≤ co13 from by omega)
        clear hr14 hC14 hroom14 hi014 hsz14
        have KY14 := Aside0.mk hy14
        clear hy14
        replace q14 := eq_true q14
        go_wp2
        go_roundg k1
        case measure => have := HK1.out; omega
        case rel => exact ⟨(y265), (.slice (some ad264) y265.length co13), H', ⟨by have := HK1.out; omega⟩, ⟨by (with_reducible repeat (first | apply Kd.V_alloc | apply Kd.V_drewN | apply Kd.V_drew)); exact Kd.V_mono (Kd.V_far (p := ⟨gb262, 1, none⟩) (Kd.V_mono HO269.out (fun k_ hk => (⟨hk, hk.2.1⟩ : _ ∧ k_ ≠ gb262))) (fun _ hk => hk.2) (.slice (some ad264) y265.length co13)) (fun _ hk => ⟨hk.1.1, ⟨hk.1.2.1, hk.1.2.2⟩⟩)⟩, ⟨by (with_reducible repeat (first | refine blk_drewN ?_ _ | refine blk_drew ?_ | refine blk_alloc ?_ _)); refine blk_put (cs := #[.bool a0_0, .slice (some ad264) x263001_1.length co13]) ?_ 1 _ rfl; exact zk BK262⟩, ⟨by (with_reducible repeat (first | refine blk_drewN ?_ _ | refine blk_drew ?_ | refine blk_alloc ?_ _)); refine blk_far ?_ NB263_262.out _; exact zk BK263⟩, ⟨(zb w)⟩⟩
       ·rw [if_neg c10] at H
        exact absurd H (by simp)
      ·rw [if_neg c8] at H
       have c8b0 : ((rd x263001_1 (ji5)) == 0) = false := beq_eq_false_iff_ne.mpr c8
       have c8b1 : ((rd x263001_1 (ji5)) != 0) = true := bne_iff_ne.mpr c8
       by_cases c15 : (x263001_1.length : Int) = 0
       ·rw [if_pos c15] at H
        have c15b0 : ((x263001_1.length : Int) == 0) = true := beq_iff_eq.mpr c15
        have c15b1 : ((x263001_1.length : Int) != 0) = false := bne_eq_false_iff_eq.mpr c15
        clear c15
        simp only [Option.some.injEq, Prod.mk.injEq] at H
        obtain ⟨rfl, rfl⟩ := H
        have hnb16 := NB262_263.out
        have hnc16 := NB263_262.out
        obtain ⟨hcz17_0, hcz17_1, hfz17_0, hfz17_1⟩ := cz2 BK262
        obtain ⟨Ao18, co18, eo18⟩ := Kd.V_slice HO_263001.out
        subst eo18
        have p264 : 0 ≤ ((ji5) : Int) := of_decide_eq_true (by assumption)
        have q264 : (ji5) < (x263001_1.length : Int) := of_decide_eq_true (by assumption)
        obtain ⟨ad264, e264, hx264_0⟩ := Kd.at_int (Kd.V_reads' HO_263001.out).2.2 (ji5) p264 q264
        cases e264
        replace p264 := eq_true p264
        replace q264 := eq_true q264
        obtain ⟨hcz19_0, hcz19_1, hfz19_0, hfz19_1⟩ := cz2 BK263
        go_wp2
        refine bodyPost_ret (results_cell_row rfl _ _ gb263 40 #[.bool false, .slice (some ad264) x263001_1.length co18] (0, 0) _ rfl (by (with_reducible repeat (first | refine blk_drewN ?_ _ | refine blk_drew ?_ | refine blk_alloc ?_ _)); refine blk_put (cs := #[.bool false, .slice none 0 0]) ?_ 1 _ rfl; (with_reducible repeat (first | refine blk_drewN ?_ _ | refine blk_drew ?_ | refine blk_alloc ?_ _)); refine blk_put (cs := #[.bool false, .slice none 0 0]) ?_ 0 _ rfl; (with_reducible repeat (first | refine blk_drewN ?_ _ | refine blk_drew ?_ | refine blk_alloc ?_ _)); refine blk_far ?_ NB263_262.out _; exact zk BK263) Tryd.underlying40 rfl (by kernel_rfl)) rfl ?_
        exact ⟨_, by first | rfl | (simp [errW_none, errW_some] <;> rfl) | (simp only [← hji5]; first | rfl | (simp [errW_none, errW_some] <;> rfl)) | (simp [*, errW_none, errW_some] <;> rfl), by (with_reducible repeat (first | apply Kd.V_alloc | apply Kd.V_drewN | apply Kd.V_drew)); exact Kd.V_mono (Kd.V_far (p := ⟨gb263, 1, none⟩) (Kd.V_far (p := ⟨gb263, 0, none⟩) (Kd.V_far (p := ⟨gb262, 0, none⟩) (Kd.V_mono (Kd.V_mono HO_263001.out (fun k_ hk => (⟨hk, hk.2.1⟩ : _ ∧ k_ ≠ gb262))) (fun k_ hk => (⟨hk, hk.1.2.2⟩ : _ ∧ k_ ≠ gb263))) (fun _ hk => hk.1.2) (.bool false)) (fun _ hk => hk.2) (.bool false)) (fun _ hk => hk.2) (.slice (some ad264) x263001_1.length co18)) (fun _ hk => hk.1.1.1), (zb w)⟩
       ·rw [if_neg c15] at H
        have c15b0 : ((x263001_1.length : Int) == 0) = false := beq_eq_false_iff_ne.mpr c15
        have c15b1 : ((x263001_1.length : Int) != 0) = true := bne_iff_ne.mpr c15
        have c15b2 : ¬ (x263001_1 = []) := fun h_ => c15 (by rw [h_]; rfl)
        simp only [Option.some.injEq, Prod.mk.injEq] at H
        obtain ⟨rfl, rfl⟩ := H
        have hnb20 := NB262_263.out
        have hnc20 := NB263_262.out
        obtain ⟨hcz21_0, hcz21_1, hfz21_0, hfz21_1⟩ := cz2 BK262
        obtain ⟨Ao22, co22, eo22⟩ := Kd.V_slice HO_263001.out
        subst eo22
        have p264 : 0 ≤ ((ji5) : Int) := of_decide_eq_true (by assumption)
        have q264 : (ji5) < (x263001_1.length : Int) := of_decide_eq_true (by assumption)
        obtain ⟨ad264, e264, hx264_0⟩ := Kd.at_int (Kd.V_reads' HO_263001.out).2.2 (ji5) p264 q264
        cases e264
        replace p264 := eq_true p264
        replace q264 := eq_true q264
        obtain ⟨hcz23_0, hcz23_1, hfz23_0, hfz23_1⟩ := cz2 BK263
        go_wp2
        refine bodyPost_ret (results_cell_row rfl _ _ gb263 40 #[.bool a0_0, .slice (some ad264) x263001_1.length co22] (0, 0) _ rfl (by (with_reducible repeat (first | refine blk_drewN ?_ _ | refine blk_drew ?_ | refine blk_alloc ?_ _)); refine blk_put (cs := #[.bool a0_0, .slice none 0 0]) ?_ 1 _ rfl; (with_reducible repeat (first | refine blk_drewN ?_ _ | refine blk_drew ?_ | refine blk_alloc ?_ _)); refine blk_put (cs := #[.bool false, .slice none 0 0]) ?_ 0 _ rfl; exact zk BK263) Tryd.underlying40 rfl (by kernel_rfl)) rfl ?_
        exact ⟨_, by first | rfl | (simp [errW_none, errW_some] <;> rfl) | (simp only [← hji5]; first | rfl | (simp [errW_none, errW_some] <;> rfl)) | (simp [*, errW_none, errW_some] <;> rfl), by (with_reducible repeat (first | apply Kd.V_alloc | apply Kd.V_drewN | apply Kd.V_drew)); exact Kd.V_mono (Kd.V_far (p := ⟨gb263, 1, none⟩) (Kd.V_far (p := ⟨gb263, 0, none⟩) (Kd.V_mono HO_263001.out (fun k_ hk => (⟨hk, hk.2.2⟩ : _ ∧ k_ ≠ gb263))) (fun _ hk => hk.2) (.bool a0_0)) (fun _ hk => hk.2) (.slice (some ad264) x263001_1.length co22)) (fun _ hk => hk.1.1), (zb w)⟩
     ·rw [if_neg c7] at H
      exact absurd H (by simp)
    ·rw [if_neg c6] at H
     exact absurd H (by simp)
   ·rw [if_neg c4] at H
    have c4b0 : decide (0 < (x263001_1.length : Int)) = false := decide_eq_false c4
    have c4b1 : decide (0 < x263001_1.length) = false := decide_eq_false (by omega)
    clear c4
    by_cases c24 : (x263001_1.length : Int) = 0
    ·rw [if_pos c24] at H
     have c24b0 : ((x263001_1.length : Int) == 0) = true := beq_iff_eq.mpr c24
     have c24b1 : ((x263001_1.length : Int) != 0) = false := bne_eq_false_iff_eq.mpr c24
     clear c24
     simp only [Option.some.injEq, Prod.mk.injEq] at H
     obtain ⟨rfl, rfl⟩ := H
     have hnb25 := NB262_263.out
     have hnc25 := NB263_262.out
     obtain ⟨hcz26_0, hcz26_1, hfz26_0, hfz26_1⟩ := cz2 BK262
     obtain ⟨Ao27, co27, eo27⟩ := Kd.V_slice HO_263001.out
     subst eo27
     obtain ⟨hcz28_0, hcz28_1, hfz28_0, hfz28_1⟩ := cz2 BK263
     go_wp2
     refine bodyPost_ret (results_cell_row rfl _ _ gb263 40 #[.bool false, .slice Ao27 x263001_1.length co27] (0, 0) _ rfl (by (with_reducible repeat (first | refine blk_drewN ?_ _ | refine blk_drew ?_ | refine blk_alloc ?_ _)); refine blk_put (cs := #[.bool false, .slice none 0 0]) ?_ 1 _ rfl; (with_reducible repeat (first | refine blk_drewN ?_ _ | refine blk_drew ?_ | refine blk_alloc ?_ _)); refine blk_put (cs := #[.bool false, .slice none 0 0]) ?_ 0 _ rfl; (with_reducible repeat (first | refine blk_drewN ?_ _ | refine blk_drew ?_ | refine blk_alloc ?_ _)); refine blk_far ?_ NB263_262.out _; exact zk BK263) Tryd.underlying40 rfl (by kernel_rfl)) rfl ?_
     exact ⟨_, by first | rfl | (simp [errW_none, errW_some] <;> rfl) | (simp [*, errW_none, errW_some] <;> rfl), by (with_reducible repeat (first | apply Kd.V_alloc | apply Kd.V_drewN | apply Kd.V_drew)); exact Kd.V_mono (Kd.V_far (p := ⟨gb263, 1, none⟩) (Kd.V_far (p := ⟨gb263, 0, none⟩) (Kd.V_far (p := ⟨gb262, 0, none⟩) (Kd.V_mono (Kd.V_mono HO_263001.out (fun k_ hk => (⟨hk, hk.2.1⟩ : _ ∧ k_ ≠ gb262))) (fun k_ hk => (⟨hk, hk.1.2.2⟩ : _ ∧ k_ ≠ gb263))) (fun _ hk => hk.1.2) (.bool false)) (fun _ hk => hk.2) (.bool false)) (fun _ hk => hk.2) (.slice Ao27 x263001_1.length co27)) (fun _ hk => hk.1.1.1), (zb w)⟩
    ·rw [if_neg c24] at H
     have c24b0 : ((x263001_1.length : Int) == 0) = false := beq_eq_false_iff_ne.mpr c24
     have c24b1 : ((x263001_1.length : Int) != 0) = true := bne_iff_ne.mpr c24
     have c24b2 : ¬ (x263001_1 = []) := fun h_ => c24 (by rw [h_]; rfl)
     simp only [Option.some.injEq, Prod.mk.injEq] at H
     obtain ⟨rfl, rfl⟩ := H
     have hnb29 := NB262_263.out
     have hnc29 := NB263_262.out
     obtain ⟨hcz30_0, hcz30_1, hfz30_0, hfz30_1⟩ := cz2 BK262
     obtain ⟨Ao31, co31, eo31⟩ := Kd.V_slice HO_263001.out
     subst eo31
     obtain ⟨hcz32_0, hcz32_1, hfz32_0, hfz32_1⟩ := cz2 BK263
     go_wp2
     refine bodyPost_ret (results_cell_row rfl _ _ gb263 40 #[.bool a0_0, .slice Ao31 x263001_1.length co31] (0, 0) _ rfl (by (with_reducible repeat (first | refine blk_drewN ?_ _ | refine blk_drew ?_ | refine blk_alloc ?_ _)); refine blk_put (cs := #[.bool a0_0, .slice none 0 0]) ?_ 1 _ rfl; (with_reducible repeat (first | refine blk_drewN ?_ _ | refine blk_drew ?_ | refine blk_alloc ?_ _)); refine blk_put (cs := #[.bool false, .slice none 0 0]) ?_ 0 _ rfl; exact zk BK263) Tryd.underlying40 rfl (by kernel_rfl)) rfl ?_
     exact ⟨_, by first | rfl | (simp [errW_none, errW_some] <;> rfl) | (simp [*, errW_none, errW_some] <;> rfl), by (with_reducible repeat (first | apply Kd.V_alloc | apply Kd.V_drewN | apply Kd.V_drew)); exact Kd.V_mono (Kd.V_far (p := ⟨gb263, 1, none⟩) (Kd.V_far (p := ⟨gb263, 0, none⟩) (Kd.V_mono HO_263001.out (fun k_ hk => (⟨hk, hk.2.2⟩ : _ ∧ k_ ≠ gb263))) (fun _ hk => hk.2) (.bool a0_0)) (fun _ hk => hk.2) (.slice Ao31 x263001_1.length co31)) (fun _ hk => hk.1.1), (zb w)⟩

end Go.Proofs.YtaihfoihlbileaaDoor.R4
