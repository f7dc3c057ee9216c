-- Made by a program of this session out of the translation (wip/pp.py): functions, contracts.
import Derived.Test.YthgefhnolmloiaaGreatDoorP3x0
import Derived.Test.YthgefhnolmloiaaGreatDoorP3x2
import Derived.Test.YthgefhnolmloiaaGreatDoorP3x4
import Derived.Test.YthgefhnolmloiaaGreatDoorP3x5
namespace Go.Proofs.YthgefhnolmloiaaGreatDoor.P3
open Go.RowKit Go.Proofs.YthgefhnolmloiaaGreatDoorW.PrintWords Go.Proofs.YthgefhnolmloiaaGreatDoorW.PrintLast Go.Proofs.YthgefhnolmloiaaGreatDoorW.PrintMore
attribute [local go_sem] max2_int min2_int max_two min_two max_three min_three max_four min_four   -- for this text's walks alone
set_option linter.unusedVariables false
set_option linter.unusedSimpArgs false

/-! ### interchangeref1_Of: function 98 -/
def interchangeref1_Of.l0 : Nat → Int → Bool → List Int → Option (Bool × List Int)
 | 0, _, _, _ => none
 | k + 1, x0, x202000, x202001 => if x0 = 0 then (some (x202000, x202001)) else (if x202001.length < 17592186044416 then (interchangeref1_Of.l0 k (wrap64 (Int.tdiv x0 1000000)) x202000 (x202001 ++ [mx (Int.tmod x0 1000000) (wrap64 (-(Int.tmod x0 1000000)))])) else (none))
def interchangeref1_Of.f (k : Nat) (a0 : Int) : Option (Bool × List Int) := interchangeref1_Of.l0 k a0 (decide (a0 < 0)) ([] : List Int)
theorem interchangeref1_Of.mono_l : ∀ k, (∀ y0 y1 y2, LeO (interchangeref1_Of.l0 k y0 y1 y2) (interchangeref1_Of.l0 (k + 1) y0 y1 y2))
 | 0 => fun _ _ _ r h => by simp [interchangeref1_Of.l0] at h
 | k + 1 => by
  have ih0 := interchangeref1_Of.mono_l k
  ·intro y0 y1 y2
   unfold interchangeref1_Of.l0
   repeat' first | with_reducible first | exact ih0 _ _ _ | exact lr _ | exact ln _ | refine li ?_ ?_ | refine lb ?_ fun _ => ?_ | exact ih0 _ _ _ | exact ln _ | refine li ?_ ?_ | refine lb ?_ fun _ => ?_
theorem interchangeref1_Of.mono : ∀ a0 k, LeO (interchangeref1_Of.f k a0) (interchangeref1_Of.f (k + 1) a0) := by
 intro a0 k
 have ih0 := interchangeref1_Of.mono_l k
 unfold interchangeref1_Of.f
 repeat' first | with_reducible first | exact ih0 _ _ _ | exact lr _ | exact ln _ | refine li ?_ ?_ | refine lb ?_ fun _ => ?_ | exact ih0 _ _ _ | exact ln _ | refine li ?_ ?_ | refine lb ?_ fun _ => ?_
set_option maxHeartbeats 8000000 in
set_option maxRecDepth 100000 in
theorem interchangeref1_Of.calls (k : Nat) (a0 : Int) (r1 : Bool) (r2 : List Int) (w : World) (h : interchangeref1_Of.f k a0 = some (r1, r2)) :
  Calls Tryz.prog 98 #[.int .i64 a0] w fun e w' => ∃ v1_ : Value, e = .returned (.agg #[.bool r1, v1_]) ∧ Kd.R (Kd.int .i64) 3 w' w.heap.size (fun _ => True) v1_ r2 ∧ Below w.heap.size w w' := by
 have hu84 := Tryz.underlying84
 have HB := Aside0.mk (Below.refl w.heap.size w)
 have H := h
 unfold interchangeref1_Of.f at H
 clear h
 have H' := Aside0.mk H
 clear H
 go_enter Tryz.func98, Tryz.ntmps98
 go_wp2_with (first | ((with_reducible refine gD 2 rfl ?_); refine bx w 2 #[.bool false, .slice none 0 0] 84 ?_; intro gb200 hg w2 hb BK200 GW200 GE200; clear HB; intro HB; clear hb hg) | ((with_reducible refine gD 3 rfl ?_); refine bx w 3 #[.bool false, .slice none 0 0] 84 ?_; intro gb201 hg w3 hb BK201 GW201 GE201; clear HB; intro HB; have NB200_201 := nbl BK200 hg; have NB201_200 := nbr BK200 hg; replace BK200 := bb BK200 hb; clear hb hg; have hnb4 := NB201_200.out; have hnc4 := NB200_201.out; obtain ⟨hcz5_0, hcz5_1, hfz5_0, hfz5_1⟩ := cz2 BK201))
 try simp only [sq]
 go_loopg [0] k (fun kq v0 w' => ∃ (x0_1 : Int) (x202001_1 : List Int) (u202001 : Value), v0 = .int .i64 x0_1 ∧ Aside0 (interchangeref1_Of.l0 kq x0_1 (decide (a0 < 0)) x202001_1 = some (r1, r2)) ∧ Aside0 (kq ≤ k) ∧ Aside0 (Kd.R (Kd.int .i64) 3 w' w.heap.size (fun _ => True) u202001 x202001_1) ∧ Aside0 (w'.heap[gb200]? = some (.cells #[.bool false, (.slice none 0 0)] 84 (0, 0))) ∧ Aside0 (w'.heap[gb201]? = some (.cells #[.bool (decide (a0 < 0)), u202001] 84 (0, 0))) ∧ Aside0 (Below w.heap.size w w'))
 case atStart => exact ⟨(a0), (([] : List Int)), (.slice none 0 0), ar, H', ⟨Nat.le_refl _⟩, ⟨by first | exact Kd.R_nil _ _ _ _ _ | exact Kd.N_nil _ _ _ _ _ | exact Kd.V_nil _ _ _ _ _ | exact Kd.Q_nil _ _ _ _ _ | exact Kd.S_nil _ _ _ _ _⟩, ⟨by (with_reducible repeat (first | refine blk_drewN ?_ _ | refine blk_drew ?_ | refine blk_alloc ?_ _)); refine blk_far ?_ NB200_201.out _; (with_reducible repeat (first | refine blk_drewN ?_ _ | refine blk_drew ?_ | refine blk_alloc ?_ _)); refine blk_far ?_ NB200_201.out _; exact zk BK200⟩, ⟨by (with_reducible repeat (first | refine blk_drewN ?_ _ | refine blk_drew ?_ | refine blk_alloc ?_ _)); refine blk_put (cs := #[.bool (decide (a0 < 0)), .slice none 0 0]) ?_ 1 _ rfl; (with_reducible repeat (first | refine blk_drewN ?_ _ | refine blk_drew ?_ | refine blk_alloc ?_ _)); refine blk_put (cs := #[.bool false, .slice none 0 0]) ?_ 0 _ rfl; exact zk BK201⟩, ⟨(zb w)⟩⟩
 case round =>
  clear H'
  try clear p2
  try clear c4
  try clear hcz5_0 hcz5_1 hfz5_0 hfz5_1
  obtain ⟨x0_1, x202001_1, u202001, rfl, HA, HK1, HO_202001, BK200, BK201, HB⟩ := hrel
  cases gk with
  | zero => exact absurd HA.out (by simp [interchangeref1_Of.l0])
  | succ k1 =>
   have H := HA.out
   clear HA
   simp only [interchangeref1_Of.l0] at H
   by_cases c6 : x0_1 = 0
   ·rw [if_pos c6] at H
    have c6b0 : (x0_1 == 0) = true := beq_iff_eq.mpr c6
    have c6b1 : (x0_1 != 0) = false := bne_eq_false_iff_eq.mpr c6
    clear c6
    simp only [Option.some.injEq, Prod.mk.injEq] at H
    obtain ⟨rfl, rfl⟩ := H
    have hnb7 := NB201_200.out
    have hnc7 := NB200_201.out
    obtain ⟨hcz8_0, hcz8_1, hfz8_0, hfz8_1⟩ := cz2 BK201
    obtain ⟨hcz9_0, hcz9_1, hfz9_0, hfz9_1⟩ := cz2 BK200
    obtain ⟨Ao10, co10, eo10⟩ := Kd.R_slice HO_202001.out
    subst eo10
    go_wp2
    refine bodyPost_ret (results_cell_row rfl _ _ gb200 84 #[.bool (decide (a0 < 0)), .slice Ao10 x202001_1.length co10] (0, 0) _ rfl (by (with_reducible repeat (first | refine blk_drewN ?_ _ | refine blk_drew ?_ | refine blk_alloc ?_ _)); refine blk_put (cs := #[.bool (decide (a0 < 0)), .slice none 0 0]) ?_ 1 _ rfl; (with_reducible repeat (first | refine blk_drewN ?_ _ | refine blk_drew ?_ | refine blk_alloc ?_ _)); refine blk_put (cs := #[.bool false, .slice none 0 0]) ?_ 0 _ rfl; exact zk BK200) Tryz.underlying84 rfl (by kernel_rfl)) rfl ?_
    exact ⟨_, by first | rfl | (simp [errW_none, errW_some] <;> rfl) | (simp [*, errW_none, errW_some] <;> rfl), by (with_reducible repeat (first | apply Kd.R_alloc | apply Kd.R_drewN | apply Kd.R_drew)); exact Kd.R_mono (Kd.R_far (p := ⟨gb200, 1, none⟩) (Kd.R_far (p := ⟨gb200, 0, none⟩) (Kd.R_types HO_202001.out BK200.out (by decide)) (fun _ hk => hk.2) (.bool (decide (a0 < 0)))) (fun _ hk => hk.2) (.slice Ao10 x202001_1.length co10)) (fun _ hk => trivial), (zb w)⟩
   ·rw [if_neg c6] at H
    have c6b0 : (x0_1 == 0) = false := beq_eq_false_iff_ne.mpr c6
    have c6b1 : (x0_1 != 0) = true := bne_iff_ne.mpr c6
    obtain ⟨ji11, hji11⟩ : ∃ j_ : Int, (mx (Int.tmod x0_1 1000000) (wrap64 (-(Int.tmod x0_1 1000000)))) = j_ := ⟨_, rfl⟩
    replace H : (if x202001_1.length < 17592186044416 then (interchangeref1_Of.l0 k1 (wrap64 (Int.tdiv x0_1 1000000)) (decide (a0 < 0)) (x202001_1 ++ [ji11])) else (none)) = some (r1, r2) := by first | (rw [hji11] at H; exact H) | (simp only [hji11] at H ⊢; exact H)
    have hji11_ : (if (Int.tmod x0_1 1000000) < (wrap64 (-(Int.tmod x0_1 1000000))) then (wrap64 (-(Int.tmod x0_1 1000000))) else (Int.tmod x0_1 1000000)) = ji11 := hji11
    by_cases c12 : x202001_1.length < 17592186044416
    ·rw [if_pos c12] at H
     have LMc12 := Aside0.mk c12
     clear c12
     obtain ⟨y202, hy202⟩ : ∃ y_ : List Int, y_ = (x202001_1 ++ [ji11]) := ⟨_, rfl⟩
     replace H : (interchangeref1_Of.l0 k1 (wrap64 (Int.tdiv x0_1 1000000)) (decide (a0 < 0)) y202) = some (r1, r2) := by first | (rw [hy202]; with_reducible exact H) | (have H2_ := (Option.bind_some _ _).symm.trans H; rw [hy202]; with_reducible exact H2_) | (have H2_ := (Option.bind_some _ _).symm.trans H; with_reducible exact H2_) | with_reducible exact H | (rw [hy202]; exact H) | exact H
     have Ny202 := Aside0.mk hy202
     clear hy202
     have H' := Aside0.mk H
     clear H
     have hnb13 := NB201_200.out
     have hnc13 := NB200_201.out
     obtain ⟨hcz14_0, hcz14_1, hfz14_0, hfz14_1⟩ := cz2 BK201
     go_wp2_with (first | ((with_reducible refine gate_builtin (b := .append) (xs := #[.tmp 13, .tmp 18]) rfl ?_); at_builtin; refine Kd.R_append (Kd.int .i64) (w0 := w) w.heap.size rfl (.tmp 13) (.tmp 18) 35 3 (.int .i64 0) 8 rfl Tryz.underlying35 info3 rfl (by decide) (by omega) u202001 x202001_1 ji11 [.int .i64 ji11] (fun _ => True) (fun _ => False) rfl rfl ?aP (fun _ hk => hk.elim) ?aF ?aO ?aB ?aS ?aL ?_; (case aP => exact rfl); (case aB => exact (zb w)); (case aF => exact (fun _ _ => trivial)); (case aO => exact (zo HO_202001)); (case aS => exact (below_size (zb w))); (case aL => have := LMc12.out; omega); intro v203 w15 ho hb hg hat; rw [← Ny202.out] at ho; replace BK200 := Aside0.mk (blk_grown (g := gb200) (o := .cells #[.bool false, .slice none 0 0] 84 (0, 0)) (zk BK200) hg (Kd.R_ne HO_202001.out BK200.out (by decide))); replace BK201 := Aside0.mk (blk_grown (g := gb201) (o := .cells #[.bool (decide (a0 < 0)), u202001] 84 (0, 0)) (zk BK201) hg (Kd.R_ne HO_202001.out BK201.out (by decide))); replace HB := Aside0.mk (hb); have HO204 := Aside0.mk (ho); clear HO_202001; clear ho hb hg hat; obtain ⟨Ao16, co16, eo16⟩ := Kd.R_slice HO204.out; subst eo16; obtain ⟨hcz17_0, hcz17_1, hfz17_0, hfz17_1⟩ := cz2 BK201))
     go_roundg k1
     case measure => have := HK1.out; omega
     case rel => exact ⟨(wrap64 (Int.tdiv x0_1 1000000)), (y202), (.slice Ao16 y202.length co16), ar, H', ⟨by have := HK1.out; omega⟩, ⟨by (with_reducible repeat (first | apply Kd.R_alloc | apply Kd.R_drewN | apply Kd.R_drew)); exact Kd.R_mono (Kd.R_far (p := ⟨gb201, 1, none⟩) (Kd.R_types HO204.out BK201.out (by decide)) (fun _ hk => hk.2) (.slice Ao16 y202.length co16)) (fun _ hk => trivial)⟩, ⟨by (with_reducible repeat (first | refine blk_drewN ?_ _ | refine blk_drew ?_ | refine blk_alloc ?_ _)); refine blk_far ?_ NB200_201.out _; exact zk BK200⟩, ⟨by (with_reducible repeat (first | refine blk_drewN ?_ _ | refine blk_drew ?_ | refine blk_alloc ?_ _)); refine blk_put (cs := #[.bool (decide (a0 < 0)), u202001]) ?_ 1 _ rfl; exact zk BK201⟩, ⟨(zb w)⟩⟩
    ·rw [if_neg c12] at H
     exact absurd H (by simp)

/-! ### interchangeref1_Power: function 99 -/
def interchangeref1_Power.l0 : Nat → Int → Int → Bool → List Int → Option (Bool × List Int)
 | 0, _, _, _, _ => none
 | k + 1, x5, x6, x211000, x211001 => if x6 < x5 then ((interchangeref1_Of.f k 10).bind fun bt211 => ((interchangeref1_TimesOf.f k x211000 x211001 bt211.1 bt211.2).bind fun bt215 => (interchangeref1_Power.l0 k x5 (wrap64 (x6 + 1)) bt215.1 bt215.2))) else (some (x211000, x211001))
def interchangeref1_Power.f (k : Nat) (a0 : Int) : Option (Bool × List Int) := (interchangeref1_Of.f k 1).bind fun bt206 => (interchangeref1_Power.l0 k a0 0 bt206.1 bt206.2)
theorem interchangeref1_Power.mono_l : ∀ k, (∀ y0 y1 y2 y3, LeO (interchangeref1_Power.l0 k y0 y1 y2 y3) (interchangeref1_Power.l0 (k + 1) y0 y1 y2 y3))
 | 0 => fun _ _ _ _ r h => by simp [interchangeref1_Power.l0] at h
 | k + 1 => by
  have ih0 := interchangeref1_Power.mono_l k
  ·intro y0 y1 y2 y3
   unfold interchangeref1_Power.l0
   repeat' first | with_reducible first | exact ih0 _ _ _ _ | exact interchangeref1_Of.mono _ _ | exact interchangeref1_TimesOf.mono _ _ _ _ _ | exact lr _ | exact ln _ | refine li ?_ ?_ | refine lb ?_ fun _ => ?_ | exact ih0 _ _ _ _ | exact interchangeref1_Of.mono _ _ | exact interchangeref1_TimesOf.mono _ _ _ _ _ | exact ln _ | refine li ?_ ?_ | refine lb ?_ fun _ => ?_
theorem interchangeref1_Power.mono : ∀ a0 k, LeO (interchangeref1_Power.f k a0) (interchangeref1_Power.f (k + 1) a0) := by
 intro a0 k
 have ih0 := interchangeref1_Power.mono_l k
 unfold interchangeref1_Power.f
 repeat' first | with_reducible first | exact ih0 _ _ _ _ | exact interchangeref1_Of.mono _ _ | exact interchangeref1_TimesOf.mono _ _ _ _ _ | exact lr _ | exact ln _ | refine li ?_ ?_ | refine lb ?_ fun _ => ?_ | exact ih0 _ _ _ _ | exact interchangeref1_Of.mono _ _ | exact interchangeref1_TimesOf.mono _ _ _ _ _ | exact ln _ | refine li ?_ ?_ | refine lb ?_ fun _ => ?_
set_option maxHeartbeats 8000000 in
set_option maxRecDepth 100000 in
theorem interchangeref1_Power.calls (k : Nat) (a0 : Int) (r1 : Bool) (r2 : List Int) (w : World) (h : interchangeref1_Power.f k a0 = some (r1, r2)) :
  Calls Tryz.prog 99 #[.int .i64 a0] w fun e w' => ∃ v1_ : Value, e = .returned (.agg #[.bool r1, v1_]) ∧ Kd.V (Kd.int .i64) 3 w' w.heap.size (fun k_ => (w.heap.size ≤ k_)) v1_ r2 ∧ Below w.heap.size w w' := by
 have hu84 := Tryz.underlying84
 have HB := Aside0.mk (Below.refl w.heap.size w)
 have H := h
 unfold interchangeref1_Power.f at H
 clear h
 replace H := Option.bind_eq_some_iff.mp H
 obtain ⟨⟨t206, t207⟩, A20, H⟩ := H
 try dsimp only at H
 have A2 := Aside0.mk A20
 clear A20
 have H' := Aside0.mk H
 clear H
 go_enter Tryz.func99, Tryz.ntmps99
 go_wp2_with (first | ((with_reducible refine gD 2 rfl ?_); refine bx w 2 #[.bool false, .slice none 0 0] 84 ?_; intro gb205 hg w3 hb BK205 GW205 GE205; clear HB; intro HB; clear hb hg) | ((with_reducible refine gC 98 rfl ?_); refine gl_ 4 Tryz.func98 #[.int .i64 1] ?_; (with_reducible refine (interchangeref1_Of.calls k 1 t206 t207 _ A2.out).mono ?_); rintro e w4 ⟨v208, rfl, ho0, hb⟩; refine ⟨_, rfl, ?_⟩; have HO209 := Aside0.mk (Kd.R_lower (Kd.R_newM (M := fun k_ => (w.heap.size ≤ k_)) ho0 (below_size (zb w)) (fun k_ h_ => h_)) (below_size (zb w))); replace BK205 := bb BK205 hb; replace HB := hs w hb; (try clear hb); (try clear ho0)) | ((with_reducible refine gD 3 rfl ?_); refine box_event ?hg (N := 3) ?hd (cs := #[.bool false, .slice none 0 0]) (t := 84) ?hr ?_; (case hd => rfl); (case hg => rfl); (case hr => first | (go_simp; done) | (go_simp; rfl)); intro gb210 hg w5 hbox hb; replace HO209 := rb HO209 hb; have BK210 := Aside0.mk (hbox); have GW210 := Aside0.mk ((by rw [hg]; exact (below_size (zb w)) : w.heap.size ≤ gb210)); have GE210 := Aside0.mk ((by rw [hg]; exact (below_size (zb w)) : w.heap.size ≤ gb210)); replace HB := hs w hb; have NB205_210 := nbl BK205 hg; have NB210_205 := nbr BK205 hg; replace BK205 := bb BK205 hb; clear hb hg; have hnb6 := NB210_205.out; have hnc6 := NB205_210.out; obtain ⟨hcz7_0, hcz7_1, hfz7_0, hfz7_1⟩ := cz2 BK210; obtain ⟨Ao8, co8, eo8⟩ := Kd.R_slice HO209.out; subst eo8))
 try simp only [sq]
 go_loopg [6] k (fun kq v6 w' => ∃ (x6_1 : Int) (x211000_1 : Bool) (x211001_1 : List Int) (u211001 : Value), v6 = .int .i64 x6_1 ∧ Aside0 (interchangeref1_Power.l0 kq a0 x6_1 x211000_1 x211001_1 = some (r1, r2)) ∧ Aside0 (kq ≤ k) ∧ Aside0 (Kd.V (Kd.int .i64) 3 w' w.heap.size (fun k_ => (w.heap.size ≤ k_) ∧ k_ ≠ gb205 ∧ k_ ≠ gb210) u211001 x211001_1) ∧ Aside0 (w'.heap[gb205]? = some (.cells #[.bool false, (.slice none 0 0)] 84 (0, 0))) ∧ Aside0 (w'.heap[gb210]? = some (.cells #[.bool x211000_1, u211001] 84 (0, 0))) ∧ Aside0 (Below w.heap.size w w'))
 case atStart => exact ⟨(0), (t206), (t207), (.slice Ao8 t207.length co8), ar, H', ⟨Nat.le_refl _⟩, ⟨Kd.R_V (by (with_reducible repeat (first | apply Kd.R_alloc | apply Kd.R_drewN | apply Kd.R_drew)); exact Kd.R_mono (Kd.R_far (p := ⟨gb210, 1, none⟩) (Kd.R_far (p := ⟨gb210, 0, none⟩) (Kd.R_types (Kd.R_types (Kd.R_types HO209.out BK205.out (by decide)) BK210.out (by decide)) BK210.out (by decide)) (fun _ hk => hk.2) (.bool t206)) (fun _ hk => hk.2) (.slice Ao8 t207.length co8)) (fun _ hk => ⟨hk.1.1.1.1, ⟨hk.1.1.2, hk.1.2⟩⟩))⟩, ⟨by (with_reducible repeat (first | refine blk_drewN ?_ _ | refine blk_drew ?_ | refine blk_alloc ?_ _)); refine blk_far ?_ NB205_210.out _; (with_reducible repeat (first | refine blk_drewN ?_ _ | refine blk_drew ?_ | refine blk_alloc ?_ _)); refine blk_far ?_ NB205_210.out _; exact zk BK205⟩, ⟨by (with_reducible repeat (first | refine blk_drewN ?_ _ | refine blk_drew ?_ | refine blk_alloc ?_ _)); refine blk_put (cs := #[.bool t206, .slice none 0 0]) ?_ 1 _ rfl; (with_reducible repeat (first | refine blk_drewN ?_ _ | refine blk_drew ?_ | refine blk_alloc ?_ _)); refine blk_put (cs := #[.bool false, .slice none 0 0]) ?_ 0 _ rfl; exact zk BK210⟩, ⟨(zb w)⟩⟩
 case round =>
  clear H'
  try clear p2
  try clear c6
  try clear hcz7_0 hcz7_1 hfz7_0 hfz7_1
  obtain ⟨x6_1, x211000_1, x211001_1, u211001, rfl, HA, HK1, HO_211001, BK205, BK210, HB⟩ := hrel
  cases gk with
  | zero => exact absurd HA.out (by simp [interchangeref1_Power.l0])
  | succ k1 =>
   have H := HA.out
   clear HA
   simp only [interchangeref1_Power.l0] at H
   by_cases c9 : x6_1 < a0
   ·rw [if_pos c9] at H
    have c9b0 : decide (x6_1 < a0) = true := decide_eq_true c9
    clear c9
    replace H := Option.bind_eq_some_iff.mp H
    obtain ⟨⟨t211, t212⟩, A100, H⟩ := H
    try dsimp only at H
    have A10 := Aside0.mk A100
    clear A100
    replace H := Option.bind_eq_some_iff.mp H
    obtain ⟨⟨t215, t216⟩, A110, H⟩ := H
    try dsimp only at H
    have A11 := Aside0.mk A110
    clear A110
    have H' := Aside0.mk H
    clear H
    try go_wp2
    have n0_ := Aside0.mk (Kd.V_drew HO_211001.out)
    have n1_ := Aside0.mk (blk_drew BK205.out)
    have n2_ := Aside0.mk (blk_drew BK210.out)
    have n3_ := Aside0.mk (below_drew1 HB.out)
    clear HO_211001
    clear BK205
    clear BK210
    clear HB
    have HO_211001 := n0_
    have BK205 := n1_
    have BK210 := n2_
    have HB := n3_
    clear n0_ n1_ n2_ n3_
    refine start_ (n := 4) (S := fun w' => w'.cell? ⟨gb210, 0, none⟩ = some (.bool x211000_1) ∧ w'.cell? ⟨gb210, 1, none⟩ = some (u211001)) (ds := [3]) (bm 4 0) (by kernel_rfl) rfl rfl ⟨(blk_cell BK210.out 0).trans rfl, (blk_cell BK210.out 1).trans rfl⟩ (fun hHeld => ?_)
    generalize wr.drew = w12 at HO_211001 BK205 BK210 HB hHeld ⊢
    refine take_ (i := 0) (N := some 8) (v := ?_) (a' := ?_) (bm 4 1) rfl rfl (by kernel_rfl) (fun _ _ _ h => h) (Or.inl ⟨by rfl, ?_⟩) hHeld ?_ ?_
    rotate_left
    ·rintro w' ⟨s0, s1⟩
     go_simp
     with_reducible rfl
    rotate_left
    ·simp only [sq, i64_w, i32_w]
     rfl
    refine one_ (i := 1) (N := some 9) (bm 4 3) rfl rfl (by kernel_rfl) (by decide) (fun K hK => ?_)
    refine gs Tryz.func98 #[.int .i64 10] ?_
    with_reducible refine (interchangeref1_Of.calls k1 10 t211 t212 _ A10.out).mono ?_
    rintro e w13 ⟨v213, rfl, ho0, hb⟩
    refine ⟨_, rfl, ?_⟩
    have n0_ := Aside0.mk (Kd.V_elder' (by (with_reducible repeat (first | apply Kd.V_alloc | apply Kd.V_drewN | apply Kd.V_drew)); exact HO_211001.out) (Kd.R_base ho0) hb)
    have n1_ := Aside0.mk (Kd.R_lower (Kd.R_newM (M := fun k_ => (w.heap.size ≤ k_)) ho0 (below_size (zb w)) (fun k_ h_ => h_)) (below_size (zb w)))
    have n2_ := bb BK205 hb
    have n3_ := bb BK210 hb
    have n4_ := hs w hb
    clear HO_211001
    clear BK205
    clear BK210
    clear HB
    have HO_211001 := n0_
    have HO214 := n1_
    have BK205 := n2_
    have BK210 := n3_
    have HB := n4_
    clear n0_ n1_ n2_ n3_ n4_
    (try clear hb)
    (try clear hb2)
    (try clear hk)
    (try clear hi)
    (try clear ho0)
    obtain ⟨Ao14, co14, eo14⟩ := Kd.V_slice HO_211001.out
    (first | subst eo14 | (injection eo14 with f1_ f2_ f3_; have f4_ := f1_.symm; have f5_ := f3_.symm; clear f1_ f2_ f3_; subst f4_; subst f5_))
    obtain ⟨Ao15, co15, eo15⟩ := Kd.R_slice HO214.out
    (first | subst eo15 | (injection eo15 with f1_ f2_ f3_; have f4_ := f1_.symm; have f5_ := f3_.symm; clear f1_ f2_ f3_; subst f4_; subst f5_))
    refine hK.out _ _ ⟨(blk_cell BK210.out 0).trans rfl, (blk_cell BK210.out 1).trans rfl⟩ (fun hHeld => ?_)
    clear hK K
    refine norm_ (a' := ?_) ?_ ?_
    rotate_left
    ·show Act.put _ (some 9) _ = _
     simp only [sq, i64_w, i32_w]
     rfl
    refine one_ (i := 2) (N := some 10) (bm 4 7) rfl rfl (by kernel_rfl) (by decide) (fun K hK => ?_)
    refine gs Tryz.func97 #[.agg #[.bool x211000_1, .slice Ao14 x211001_1.length co14], .agg #[.bool t211, .slice Ao15 t212.length co15]] ?_
    with_reducible refine (interchangeref1_TimesOf.calls k1 x211000_1 _ _ x211001_1 t211 _ _ t212 t215 t216 _ ?side1 ?side2 ?side3 ?side4 A11.out).mono ?_
    (case side1 => repeat (first | exact (Kd.V_reads' HO_211001.out).2.2 | (with_reducible refine Kd.C_alloc ?_ _) | (with_reducible refine Kd.C_drewN ?_ _) | (with_reducible refine Kd.C_drew ?_)))
    (case side2 => exact (Kd.V_reads' HO_211001.out).2.1)
    (case side3 => repeat (first | exact (Kd.R_reads' HO214.out).2.2 | (with_reducible refine Kd.C_alloc ?_ _) | (with_reducible refine Kd.C_drewN ?_ _) | (with_reducible refine Kd.C_drew ?_)))
    (case side4 => exact (Kd.R_reads' HO214.out).2.1)
    rintro e w16 ⟨v217, rfl, ho0, hb⟩
    refine ⟨_, rfl, ?_⟩
    have n0_ := Aside0.mk (Kd.V_below (by (with_reducible repeat (first | apply Kd.V_alloc | apply Kd.V_drewN | apply Kd.V_drew)); exact HO_211001.out) hb)
    have n1_ := rb HO214 hb
    have n2_ := Aside0.mk (Kd.V_lower (Kd.V_mono (ok' := fun k_ => (w.heap.size ≤ k_) ∧ some k_ ≠ (.slice Ao15 t212.length co15 : Value).ownBlock ∧ k_ ≠ gb205 ∧ k_ ≠ gb210) ho0 (fun k_ hk_ => ⟨(Nat.le_trans (below_size (zb w)) hk_), (Kd.fresh' (Kd.R_lt (zo HO214)) k_ hk_), (Kd.freshB (g := gb205) (o := .cells #[.bool false, .slice none 0 0] 84 (0, 0)) (zk BK205) k_ hk_), (Kd.freshB (g := gb210) (o := .cells #[.bool x211000_1, .slice Ao14 x211001_1.length co14] 84 (0, 0)) (zk BK210) k_ hk_)⟩)) (below_size (zb w)))
    have n3_ := bb BK205 hb
    have n4_ := bb BK210 hb
    have n5_ := hs w hb
    clear HO_211001
    clear HO214
    clear BK205
    clear BK210
    clear HB
    have HO_211001 := n0_
    have HO214 := n1_
    have HO218 := n2_
    have BK205 := n3_
    have BK210 := n4_
    have HB := n5_
    clear n0_ n1_ n2_ n3_ n4_ n5_
    (try clear hb)
    (try clear hb2)
    (try clear hk)
    (try clear hi)
    (try clear ho0)
    obtain ⟨Ao18, co18, eo18⟩ := Kd.V_slice HO218.out
    (first | subst eo18 | (injection eo18 with f1_ f2_ f3_; have f4_ := f1_.symm; have f5_ := f3_.symm; clear f1_ f2_ f3_; subst f4_; subst f5_))
    refine hK.out _ _ ⟨(blk_cell BK210.out 0).trans rfl, (blk_cell BK210.out 1).trans rfl⟩ (fun hHeld => ?_)
    clear hK K
    refine norm_ (a' := ?_) ?_ ?_
    rotate_left
    ·show Act.put _ (some 10) _ = _
     simp only [sq, i64_w, i32_w]
     rfl
    refine last_ (i := 3) (N := none) (bm 4 15) rfl rfl (by kernel_rfl) (by decide) (fun K hK => ?_)
    have hs17 : w16.cell? ⟨gb210, 0, none⟩ = some (.bool x211000_1) := (blk_cell BK210.out 0).trans rfl
    have hfs17 := blk_frozen BK210.out 0
    have hns17_0 := NB205_210.out
    have hms17_0 := NB210_205.out
    have hs19 : w16.cell? ⟨gb210, 1, none⟩ = some (.slice Ao14 x211001_1.length co14) := (blk_cell BK210.out 1).trans rfl
    have hfs19 := blk_frozen BK210.out 1
    have hns19_0 := NB205_210.out
    have hms19_0 := NB210_205.out
    refine skip_ (w1 := ?_) (by rfl) rfl ?_ ?_
    rotate_left
    ·go_simp
     rfl
    refine hK.out _ _ ?_
    clear hK K
    refine done_ (by kernel_rfl) ?_
    try go_wp2
    go_roundg k1
    case measure => have := HK1.out; omega
    case rel => exact ⟨(wrap64 (x6_1 + 1)), (t215), (t216), (.slice Ao18 t216.length co18), ar, H', ⟨by have := HK1.out; omega⟩, ⟨by (with_reducible repeat (first | apply Kd.V_alloc | apply Kd.V_drewN | apply Kd.V_drew)); exact Kd.V_mono (Kd.V_far (p := ⟨gb210, 1, none⟩) (Kd.V_far (p := ⟨gb210, 0, none⟩) (Kd.V_mono HO218.out (fun k_ hk => (⟨hk, hk.2.2.2⟩ : _ ∧ k_ ≠ gb210))) (fun _ hk => hk.2) (.bool t215)) (fun _ hk => hk.2) (.slice Ao18 t216.length co18)) (fun _ hk => ⟨hk.1.1, ⟨hk.1.2.2.1, hk.1.2.2.2⟩⟩)⟩, ⟨by (with_reducible repeat (first | refine blk_drewN ?_ _ | refine blk_drew ?_ | refine blk_alloc ?_ _)); refine blk_far ?_ NB205_210.out _; (with_reducible repeat (first | refine blk_drewN ?_ _ | refine blk_drew ?_ | refine blk_alloc ?_ _)); refine blk_far ?_ NB205_210.out _; exact zk BK205⟩, ⟨by (with_reducible repeat (first | refine blk_drewN ?_ _ | refine blk_drew ?_ | refine blk_alloc ?_ _)); refine blk_put (cs := #[.bool t215, .slice Ao14 x211001_1.length co14]) ?_ 1 _ rfl; (with_reducible repeat (first | refine blk_drewN ?_ _ | refine blk_drew ?_ | refine blk_alloc ?_ _)); refine blk_put (cs := #[.bool x211000_1, .slice Ao14 x211001_1.length co14]) ?_ 0 _ rfl; exact zk BK210⟩, ⟨(zb w)⟩⟩
   ·rw [if_neg c9] at H
    have c9b0 : decide (x6_1 < a0) = false := decide_eq_false c9
    clear c9
    simp only [Option.some.injEq, Prod.mk.injEq] at H
    obtain ⟨rfl, rfl⟩ := H
    have hnb20 := NB210_205.out
    have hnc20 := NB205_210.out
    obtain ⟨hcz21_0, hcz21_1, hfz21_0, hfz21_1⟩ := cz2 BK210
    obtain ⟨hcz22_0, hcz22_1, hfz22_0, hfz22_1⟩ := cz2 BK205
    obtain ⟨Ao23, co23, eo23⟩ := Kd.V_slice HO_211001.out
    subst eo23
    go_wp2
    refine bodyPost_ret (results_cell_row rfl _ _ gb205 84 #[.bool x211000_1, .slice Ao23 x211001_1.length co23] (0, 0) _ rfl (by (with_reducible repeat (first | refine blk_drewN ?_ _ | refine blk_drew ?_ | refine blk_alloc ?_ _)); refine blk_put (cs := #[.bool x211000_1, .slice none 0 0]) ?_ 1 _ rfl; (with_reducible repeat (first | refine blk_drewN ?_ _ | refine blk_drew ?_ | refine blk_alloc ?_ _)); refine blk_put (cs := #[.bool false, .slice none 0 0]) ?_ 0 _ rfl; exact zk BK205) Tryz.underlying84 rfl (by kernel_rfl)) rfl ?_
    exact ⟨_, by first | rfl | (simp [errW_none, errW_some] <;> rfl) | (simp [*, errW_none, errW_some] <;> rfl), by (with_reducible repeat (first | apply Kd.V_alloc | apply Kd.V_drewN | apply Kd.V_drew)); exact Kd.V_mono (Kd.V_far (p := ⟨gb205, 1, none⟩) (Kd.V_far (p := ⟨gb205, 0, none⟩) (Kd.V_mono HO_211001.out (fun k_ hk => (⟨hk, hk.2.1⟩ : _ ∧ k_ ≠ gb205))) (fun _ hk => hk.2) (.bool x211000_1)) (fun _ hk => hk.2) (.slice Ao23 x211001_1.length co23)) (fun _ hk => hk.1.1), (zb w)⟩

/-! ### interchangeref1_At: function 61 -/
def interchangeref1_At.f (k : Nat) (a0_0 : Int) (a0_1 : Int) (a1 : Int) : Option (Bool × List Int) := (interchangeref1_Of.f k a0_0).bind fun bt221 => ((interchangeref1_Power.f k (wrap64 (a1 - a0_1))).bind fun bt225 => ((interchangeref1_TimesOf.f k bt221.1 bt221.2 bt225.1 bt225.2).bind fun bt229 => (some (bt229.1, bt229.2))))
theorem interchangeref1_At.mono : ∀ a0 a1 a2 k, LeO (interchangeref1_At.f k a0 a1 a2) (interchangeref1_At.f (k + 1) a0 a1 a2) := by
 intro a0 a1 a2 k
 unfold interchangeref1_At.f
 repeat' first | with_reducible first | exact interchangeref1_Of.mono _ _ | exact interchangeref1_Power.mono _ _ | exact interchangeref1_TimesOf.mono _ _ _ _ _ | exact lr _ | exact ln _ | refine li ?_ ?_ | refine lb ?_ fun _ => ?_ | exact interchangeref1_Of.mono _ _ | exact interchangeref1_Power.mono _ _ | exact interchangeref1_TimesOf.mono _ _ _ _ _ | exact ln _ | refine li ?_ ?_ | refine lb ?_ fun _ => ?_
def interchangeref1_At.T1 : Bool × List (List Nat × List Nat) := (true, [([], []), ([0], [0]), ([1], [1]), ([], []), ([], []), ([4], [4]), ([3, 5], [3, 5]), ([6, 2], [6]), ([2, 7, 7], [2, 7]), ([8, 8, 0, 1, 2, 3, 4, 5, 6, 7, 8], [8])])
def interchangeref1_At.B1 : List Nat := [0, 1, 3, 0, 0, 16, 56, 127, 255, 511]
theorem interchangeref1_At.tab1 : rtab .any (opsOf Tryz.f61 1) = interchangeref1_At.T1 := by kernel_rfl
theorem interchangeref1_At.bits1 : waitsOk interchangeref1_At.T1.2 interchangeref1_At.B1 = true := by kernel_rfl
set_option maxHeartbeats 8000000 in
set_option maxRecDepth 100000 in
theorem interchangeref1_At.calls (k : Nat) (a0_0 : Int) (a0_1 : Int) (a1 : Int) (r1 : Bool) (r2 : List Int) (w : World) (h : interchangeref1_At.f k a0_0 a0_1 a1 = some (r1, r2)) :
  Calls Tryz.prog 61 #[.agg #[.int .i64 a0_0, .int .i64 a0_1], .int .i64 a1] w fun e w' => ∃ v1_ : Value, e = .returned (.agg #[.bool r1, v1_]) ∧ Kd.V (Kd.int .i64) 3 w' w.heap.size (fun k_ => (w.heap.size ≤ k_)) v1_ r2 ∧ Below w.heap.size w w' := by
 have hu39 := Tryz.underlying39
 have hu84 := Tryz.underlying84
 have HB := Aside0.mk (Below.refl w.heap.size w)
 have H := h
 unfold interchangeref1_At.f at H
 clear h
 replace H := Option.bind_eq_some_iff.mp H
 obtain ⟨⟨t221, t222⟩, A30, H⟩ := H
 try dsimp only at H
 have A3 := Aside0.mk A30
 clear A30
 replace H := Option.bind_eq_some_iff.mp H
 obtain ⟨⟨t225, t226⟩, A40, H⟩ := H
 try dsimp only at H
 have A4 := Aside0.mk A40
 clear A40
 replace H := Option.bind_eq_some_iff.mp H
 obtain ⟨⟨t229, t230⟩, A50, H⟩ := H
 try dsimp only at H
 have A5 := Aside0.mk A50
 clear A50
 simp only [Option.some.injEq, Prod.mk.injEq] at H
 obtain ⟨rfl, rfl⟩ := H
 go_enter Tryz.func61, Tryz.ntmps61
 try go_wp2_with (first | ((with_reducible refine gD 2 rfl ?_); refine bx w 2 #[.int .i64 a0_0, .int .i64 a0_1] 39 ?_; intro gb219 hg w6 hb BK219 GW219 GE219; clear HB; intro HB; clear hb hg) | ((with_reducible refine gD 4 rfl ?_); refine bx w 4 #[.bool false, .slice none 0 0] 84 ?_; intro gb220 hg w7 hb BK220 GW220 GE220; clear HB; intro HB; have NB219_220 := nbl BK219 hg; have NB220_219 := nbr BK219 hg; replace BK219 := bb BK219 hb; clear hb hg))
 have n0_ := Aside0.mk (blk_drew BK219.out)
 have n1_ := Aside0.mk (blk_drew BK220.out)
 have n2_ := Aside0.mk (below_drew1 HB.out)
 clear BK219
 clear BK220
 clear HB
 have BK219 := n0_
 have BK220 := n1_
 have HB := n2_
 clear n0_ n1_ n2_
 refine start_ (n := 10) (S := fun w' => w'.cell? ⟨gb219, 0, none⟩ = some (.int .i64 a0_0) ∧ w'.cell? ⟨gb219, 1, none⟩ = some (.int .i64 a0_1)) (ds := []) (bm 10 0) (by kernel_rfl) rfl rfl ⟨(blk_cell BK219.out 0).trans rfl, (blk_cell BK219.out 1).trans rfl⟩ (fun hHeld => ?_); refine with_tabW interchangeref1_At.tab1 interchangeref1_At.bits1 (fun HT_ HW_ => ?_)
 generalize w7.drew = w8 at BK219 BK220 HB hHeld ⊢
 refine pu 0 5 (bm 10 1) HT_ ?_
 refine pu 3 8 (bm 10 9) HT_ ?_
 refine pu 4 9 (bm 10 25) HT_ ?_
 refine ta2 1 6 (bm 10 27) HT_ HW_ hHeld ?_
 refine ta2 5 10 (bm 10 59) HT_ HW_ hHeld ?_
 refine pu 6 11 (bm 10 123) HT_ ?_
 refine one_ (i := 2) (N := some 7) (bm 10 127) rfl rfl (one_of HT_.out (by kernel_rfl)) (by decide) (fun K hK => ?_)
 refine gs Tryz.func98 #[.int .i64 a0_0] ?_
 with_reducible refine (interchangeref1_Of.calls k a0_0 t221 t222 _ A3.out).mono ?_
 rintro e w9 ⟨v223, rfl, ho0, hb⟩
 refine ⟨_, rfl, ?_⟩
 have n0_ := Aside0.mk (Kd.R_lower (Kd.R_newM (M := fun k_ => (w.heap.size ≤ k_)) ho0 (below_size (zb w)) (fun k_ h_ => h_)) (below_size (zb w)))
 have n1_ := bb BK219 hb
 have n2_ := bb BK220 hb
 have n3_ := hs w hb
 clear BK219
 clear BK220
 clear HB
 have HO224 := n0_
 have BK219 := n1_
 have BK220 := n2_
 have HB := n3_
 clear n0_ n1_ n2_ n3_
 (try clear hb)
 (try clear hb2)
 (try clear hk)
 (try clear hi)
 (try clear ho0)
 refine hK.out _ _ ⟨(blk_cell BK219.out 0).trans rfl, (blk_cell BK219.out 1).trans rfl⟩ (fun hHeld => ?_)
 clear hK K
 refine norm_ (a' := ?_) ?_ ?_
 rotate_left
 ·show Act.put _ (some 7) _ = _
  simp only [sq, i64_w, i32_w]
  rfl
 refine one_ (i := 7) (N := some 12) (bm 10 255) rfl rfl (one_of HT_.out (by kernel_rfl)) (by decide) (fun K hK => ?_)
 refine gs Tryz.func99 #[.int .i64 (wrap64 (a1 - a0_1))] ?_
 with_reducible refine (interchangeref1_Power.calls k (wrap64 (a1 - a0_1)) t225 t226 _ A4.out).mono ?_
 rintro e w10 ⟨v227, rfl, ho0, hb⟩
 refine ⟨_, rfl, ?_⟩
 have n0_ := rb HO224 hb
 have n1_ := Aside0.mk (Kd.V_lower (Kd.V_mono (ok' := fun k_ => (w.heap.size ≤ k_) ∧ some k_ ≠ (v223 : Value).ownBlock ∧ k_ ≠ gb219 ∧ k_ ≠ gb220) ho0 (fun k_ hk_ => ⟨(Nat.le_trans (below_size (zb w)) hk_), (Kd.fresh' (Kd.R_lt (zo HO224)) k_ hk_), (Kd.freshB (g := gb219) (o := .cells #[.int .i64 a0_0, .int .i64 a0_1] 39 (0, 0)) (zk BK219) k_ hk_), (Kd.freshB (g := gb220) (o := .cells #[.bool false, .slice none 0 0] 84 (0, 0)) (zk BK220) k_ hk_)⟩)) (below_size (zb w)))
 have n2_ := bb BK219 hb
 have n3_ := bb BK220 hb
 have n4_ := hs w hb
 clear HO224
 clear BK219
 clear BK220
 clear HB
 have HO224 := n0_
 have HO228 := n1_
 have BK219 := n2_
 have BK220 := n3_
 have HB := n4_
 clear n0_ n1_ n2_ n3_ n4_
 (try clear hb)
 (try clear hb2)
 (try clear hk)
 (try clear hi)
 (try clear ho0)
 obtain ⟨Ao11, co11, eo11⟩ := Kd.R_slice HO224.out
 (first | subst eo11 | (injection eo11 with f1_ f2_ f3_; have f4_ := f1_.symm; have f5_ := f3_.symm; clear f1_ f2_ f3_; subst f4_; subst f5_))
 obtain ⟨Ao12, co12, eo12⟩ := Kd.V_slice HO228.out
 (first | subst eo12 | (injection eo12 with f1_ f2_ f3_; have f4_ := f1_.symm; have f5_ := f3_.symm; clear f1_ f2_ f3_; subst f4_; subst f5_))
 refine hK.out _ _ ⟨(blk_cell BK219.out 0).trans rfl, (blk_cell BK219.out 1).trans rfl⟩ (fun hHeld => ?_)
 clear hK K
 refine norm_ (a' := ?_) ?_ ?_
 rotate_left
 ·show Act.put _ (some 12) _ = _
  simp only [sq, i64_w, i32_w]
  rfl
 refine one_ (i := 8) (N := some 13) (bm 10 511) rfl rfl (one_of HT_.out (by kernel_rfl)) (by decide) (fun K hK => ?_)
 refine gs Tryz.func97 #[.agg #[.bool t221, .slice Ao11 t222.length co11], .agg #[.bool t225, .slice Ao12 t226.length co12]] ?_
 with_reducible refine (interchangeref1_TimesOf.calls k t221 _ _ t222 t225 _ _ t226 t229 t230 _ ?side1 ?side2 ?side3 ?side4 A5.out).mono ?_
 (case side1 => repeat (first | exact (Kd.R_reads' HO224.out).2.2 | (with_reducible refine Kd.C_alloc ?_ _) | (with_reducible refine Kd.C_drewN ?_ _) | (with_reducible refine Kd.C_drew ?_)))
 (case side2 => exact (Kd.R_reads' HO224.out).2.1)
 (case side3 => repeat (first | exact (Kd.V_reads' HO228.out).2.2 | (with_reducible refine Kd.C_alloc ?_ _) | (with_reducible refine Kd.C_drewN ?_ _) | (with_reducible refine Kd.C_drew ?_)))
 (case side4 => exact (Kd.V_reads' HO228.out).2.1)
 rintro e w13 ⟨v231, rfl, ho0, hb⟩
 refine ⟨_, rfl, ?_⟩
 have n0_ := rb HO224 hb
 have n1_ := Aside0.mk (Kd.V_below (by (with_reducible repeat (first | apply Kd.V_alloc | apply Kd.V_drewN | apply Kd.V_drew)); exact HO228.out) hb)
 have n2_ := Aside0.mk (Kd.V_lower (Kd.V_mono (ok' := fun k_ => (w.heap.size ≤ k_) ∧ some k_ ≠ (.slice Ao11 t222.length co11 : Value).ownBlock ∧ k_ ≠ gb219 ∧ k_ ≠ gb220) ho0 (fun k_ hk_ => ⟨(Nat.le_trans (below_size (zb w)) hk_), (Kd.fresh' (Kd.R_lt (zo HO224)) k_ hk_), (Kd.freshB (g := gb219) (o := .cells #[.int .i64 a0_0, .int .i64 a0_1] 39 (0, 0)) (zk BK219) k_ hk_), (Kd.freshB (g := gb220) (o := .cells #[.bool false, .slice none 0 0] 84 (0, 0)) (zk BK220) k_ hk_)⟩)) (below_size (zb w)))
 have n3_ := bb BK219 hb
 have n4_ := bb BK220 hb
 have n5_ := hs w hb
 clear HO224
 clear HO228
 clear BK219
 clear BK220
 clear HB
 have HO224 := n0_
 have HO228 := n1_
 have HO232 := n2_
 have BK219 := n3_
 have BK220 := n4_
 have HB := n5_
 clear n0_ n1_ n2_ n3_ n4_ n5_
 (try clear hb)
 (try clear hb2)
 (try clear hk)
 (try clear hi)
 (try clear ho0)
 obtain ⟨Ao15, co15, eo15⟩ := Kd.V_slice HO232.out
 (first | subst eo15 | (injection eo15 with f1_ f2_ f3_; have f4_ := f1_.symm; have f5_ := f3_.symm; clear f1_ f2_ f3_; subst f4_; subst f5_))
 refine hK.out _ _ ⟨(blk_cell BK219.out 0).trans rfl, (blk_cell BK219.out 1).trans rfl⟩ (fun hHeld => ?_)
 clear hK K
 refine norm_ (a' := ?_) ?_ ?_
 rotate_left
 ·show Act.put _ (some 13) _ = _
  simp only [sq, i64_w, i32_w]
  rfl
 refine one_ (i := 9) (N := none) (bm 10 1023) rfl rfl (one_of HT_.out (by kernel_rfl)) (by decide) (fun K hK => ?_)
 have hs14 : w13.cell? ⟨gb220, 0, none⟩ = some (.bool false) := (blk_cell BK220.out 0).trans rfl
 have hfs14 := blk_frozen BK220.out 0
 have hns14_0 := NB219_220.out
 have hms14_0 := NB220_219.out
 have hs16 : w13.cell? ⟨gb220, 1, none⟩ = some (.slice none 0 0) := (blk_cell BK220.out 1).trans rfl
 have hfs16 := blk_frozen BK220.out 1
 have hns16_0 := NB219_220.out
 have hms16_0 := NB220_219.out
 refine skip_ (w1 := ?_) (by rfl) rfl ?_ ?_
 rotate_left
 ·go_simp
  rfl
 refine hK.out _ _ ⟨((cell_far (p := ⟨gb220, _, none⟩) NB219_220.out _).trans (((cell_far (p := ⟨gb220, _, none⟩) NB219_220.out _).trans (hHeld.1)))), ((cell_far (p := ⟨gb220, _, none⟩) NB219_220.out _).trans (((cell_far (p := ⟨gb220, _, none⟩) NB219_220.out _).trans (hHeld.2))))⟩ (fun hHeld => ?_)
 clear hK K
 refine done_ (done_of HT_.out (by kernel_rfl)) ?_
 try go_wp2
 refine bodyPost_ret (results_cell_row rfl _ _ gb220 84 #[.bool t229, .slice Ao15 t230.length co15] (0, 0) _ rfl (by (with_reducible repeat (first | refine blk_drewN ?_ _ | refine blk_drew ?_ | refine blk_alloc ?_ _)); refine blk_put (cs := #[.bool t229, .slice none 0 0]) ?_ 1 _ rfl; (with_reducible repeat (first | refine blk_drewN ?_ _ | refine blk_drew ?_ | refine blk_alloc ?_ _)); refine blk_put (cs := #[.bool false, .slice none 0 0]) ?_ 0 _ rfl; exact zk BK220) Tryz.underlying84 rfl (by kernel_rfl)) rfl ?_
 exact ⟨_, by first | rfl | (simp [errW_none, errW_some] <;> rfl) | (simp [*, errW_none, errW_some] <;> rfl), by (with_reducible repeat (first | apply Kd.V_alloc | apply Kd.V_drewN | apply Kd.V_drew)); exact Kd.V_mono (Kd.V_far (p := ⟨gb220, 1, none⟩) (Kd.V_far (p := ⟨gb220, 0, none⟩) (Kd.V_mono HO232.out (fun k_ hk => (⟨hk, hk.2.2.2⟩ : _ ∧ k_ ≠ gb220))) (fun _ hk => hk.2) (.bool t229)) (fun _ hk => hk.2) (.slice Ao15 t230.length co15)) (fun _ hk => hk.1.1), (zb w)⟩

/-! ### interchangeref10_cmp: function 40 -/
def interchangeref10_cmp.f (k : Nat) (a0_0 : Int) (a0_1 : Int) (a1_0 : Int) (a1_1 : Int) : Option (Int) := (interchangeref1_At.f k a0_0 a0_1 9).bind fun bt235 => ((interchangeref1_At.f k a1_0 a1_1 9).bind fun bt239 => ((interchangeref1_Cmp.f k bt235.1 bt235.2 bt239.1 bt239.2).bind fun t243 => (some t243)))
theorem interchangeref10_cmp.mono : ∀ a0 a1 a2 a3 k, LeO (interchangeref10_cmp.f k a0 a1 a2 a3) (interchangeref10_cmp.f (k + 1) a0 a1 a2 a3) := by
 intro a0 a1 a2 a3 k
 unfold interchangeref10_cmp.f
 repeat' first | with_reducible first | exact interchangeref1_At.mono _ _ _ _ | exact interchangeref1_Cmp.mono _ _ _ _ _ | exact lr _ | exact ln _ | refine li ?_ ?_ | refine lb ?_ fun _ => ?_ | exact interchangeref1_At.mono _ _ _ _ | exact interchangeref1_Cmp.mono _ _ _ _ _ | exact ln _ | refine li ?_ ?_ | refine lb ?_ fun _ => ?_
set_option maxHeartbeats 8000000 in
set_option maxRecDepth 100000 in
theorem interchangeref10_cmp.calls (k : Nat) (a0_0 : Int) (a0_1 : Int) (a1_0 : Int) (a1_1 : Int) (r : Int) (w : World) (h : interchangeref10_cmp.f k a0_0 a0_1 a1_0 a1_1 = some r) :
  Calls Tryz.prog 40 #[.agg #[.int .i64 a0_0, .int .i64 a0_1], .agg #[.int .i64 a1_0, .int .i64 a1_1]] w fun e w' => e = .returned (.int .i64 r) ∧ Below w.heap.size w w' := by
 have hu39 := Tryz.underlying39
 have HB := Aside0.mk (Below.refl w.heap.size w)
 have H := h
 unfold interchangeref10_cmp.f at H
 clear h
 replace H := Option.bind_eq_some_iff.mp H
 obtain ⟨⟨t235, t236⟩, A30, H⟩ := H
 try dsimp only at H
 have A3 := Aside0.mk A30
 clear A30
 replace H := Option.bind_eq_some_iff.mp H
 obtain ⟨⟨t239, t240⟩, A40, H⟩ := H
 try dsimp only at H
 have A4 := Aside0.mk A40
 clear A40
 replace H := Option.bind_eq_some_iff.mp H
 obtain ⟨t243, A50, H⟩ := H
 try dsimp only at H
 have A5 := Aside0.mk A50
 clear A50
 obtain rfl := Option.some.inj H
 go_enter Tryz.func40, Tryz.ntmps40
 try go_wp2_with (first | ((with_reducible refine gD 2 rfl ?_); refine bx w 2 #[.int .i64 a0_0, .int .i64 a0_1] 39 ?_; intro gb233 hg w6 hb BK233 GW233 GE233; clear HB; intro HB; clear hb hg) | ((with_reducible refine gD 3 rfl ?_); refine bx w 3 #[.int .i64 a1_0, .int .i64 a1_1] 39 ?_; intro gb234 hg w7 hb BK234 GW234 GE234; clear HB; intro HB; have NB233_234 := nbl BK233 hg; have NB234_233 := nbr BK233 hg; replace BK233 := bb BK233 hb; clear hb hg))
 have n0_ := Aside0.mk (blk_drew BK233.out)
 have n1_ := Aside0.mk (blk_drew BK234.out)
 have n2_ := Aside0.mk (below_drew1 HB.out)
 clear BK233
 clear BK234
 clear HB
 have BK233 := n0_
 have BK234 := n1_
 have HB := n2_
 clear n0_ n1_ n2_
 refine start_ (n := 6) (S := fun w' => w'.cell? ⟨gb233, 0, none⟩ = some (.int .i64 a0_0) ∧ w'.cell? ⟨gb233, 1, none⟩ = some (.int .i64 a0_1) ∧ w'.cell? ⟨gb234, 0, none⟩ = some (.int .i64 a1_0) ∧ w'.cell? ⟨gb234, 1, none⟩ = some (.int .i64 a1_1)) (ds := []) (bm 6 0) (by kernel_rfl) rfl rfl ⟨(blk_cell BK233.out 0).trans rfl, (blk_cell BK233.out 1).trans rfl, (blk_cell BK234.out 0).trans rfl, (blk_cell BK234.out 1).trans rfl⟩ (fun hHeld => ?_)
 generalize w7.drew = w8 at BK233 BK234 HB hHeld ⊢
 refine take_ (i := 0) (N := some 5) (v := ?_) (a' := ?_) (bm 6 1) rfl rfl (by kernel_rfl) (fun _ _ _ h => h) (Or.inl ⟨by rfl, ?_⟩) hHeld ?_ ?_
 rotate_left
 ·rintro w' ⟨s0, s1, s2, s3⟩
  go_simp
  with_reducible rfl
 rotate_left
 ·simp only [sq, i64_w, i32_w]
  rfl
 refine take_ (i := 2) (N := some 7) (v := ?_) (a' := ?_) (bm 6 5) rfl rfl (by kernel_rfl) (fun _ _ _ h => h) (Or.inl ⟨by rfl, ?_⟩) hHeld ?_ ?_
 rotate_left
 ·rintro w' ⟨s0, s1, s2, s3⟩
  go_simp
  with_reducible rfl
 rotate_left
 ·simp only [sq, i64_w, i32_w]
  rfl
 refine one_ (i := 1) (N := some 6) (bm 6 7) rfl rfl (by kernel_rfl) (by decide) (fun K hK => ?_)
 refine gs Tryz.func61 #[.agg #[.int .i64 a0_0, .int .i64 a0_1], .int .i64 9] ?_
 with_reducible refine (interchangeref1_At.calls k a0_0 a0_1 9 t235 t236 _ A3.out).mono ?_
 rintro e w9 ⟨v237, rfl, ho0, hb⟩
 refine ⟨_, rfl, ?_⟩
 have n0_ := Aside0.mk (Kd.V_lower (Kd.V_mono (ok' := fun k_ => k_ ≠ gb233 ∧ k_ ≠ gb234) ho0 (fun k_ hk_ => ⟨(Kd.freshB (g := gb233) (o := .cells #[.int .i64 a0_0, .int .i64 a0_1] 39 (0, 0)) (zk BK233) k_ hk_), (Kd.freshB (g := gb234) (o := .cells #[.int .i64 a1_0, .int .i64 a1_1] 39 (0, 0)) (zk BK234) k_ hk_)⟩)) (below_size (zb w)))
 have n1_ := bb BK233 hb
 have n2_ := bb BK234 hb
 have n3_ := hs w hb
 clear BK233
 clear BK234
 clear HB
 have HO238 := n0_
 have BK233 := n1_
 have BK234 := n2_
 have HB := n3_
 clear n0_ n1_ n2_ n3_
 (try clear hb)
 (try clear hb2)
 (try clear hk)
 (try clear hi)
 (try clear ho0)
 refine hK.out _ _ ⟨(blk_cell BK233.out 0).trans rfl, (blk_cell BK233.out 1).trans rfl, (blk_cell BK234.out 0).trans rfl, (blk_cell BK234.out 1).trans rfl⟩ (fun hHeld => ?_)
 clear hK K
 refine norm_ (a' := ?_) ?_ ?_
 rotate_left
 ·show Act.put _ (some 6) _ = _
  simp only [sq, i64_w, i32_w]
  rfl
 refine one_ (i := 3) (N := some 8) (bm 6 15) rfl rfl (by kernel_rfl) (by decide) (fun K hK => ?_)
 refine gs Tryz.func61 #[.agg #[.int .i64 a1_0, .int .i64 a1_1], .int .i64 9] ?_
 with_reducible refine (interchangeref1_At.calls k a1_0 a1_1 9 t239 t240 _ A4.out).mono ?_
 rintro e w10 ⟨v241, rfl, ho0, hb⟩
 refine ⟨_, rfl, ?_⟩
 have n0_ := Aside0.mk (Kd.V_below (by (with_reducible repeat (first | apply Kd.V_alloc | apply Kd.V_drewN | apply Kd.V_drew)); exact HO238.out) hb)
 have n1_ := Aside0.mk (Kd.V_lower (Kd.V_mono (ok' := fun k_ => k_ ≠ gb233 ∧ k_ ≠ gb234) ho0 (fun k_ hk_ => ⟨(Kd.freshB (g := gb233) (o := .cells #[.int .i64 a0_0, .int .i64 a0_1] 39 (0, 0)) (zk BK233) k_ hk_), (Kd.freshB (g := gb234) (o := .cells #[.int .i64 a1_0, .int .i64 a1_1] 39 (0, 0)) (zk BK234) k_ hk_)⟩)) (below_size (zb w)))
 have n2_ := bb BK233 hb
 have n3_ := bb BK234 hb
 have n4_ := hs w hb
 clear HO238
 clear BK233
 clear BK234
 clear HB
 have HO238 := n0_
 have HO242 := n1_
 have BK233 := n2_
 have BK234 := n3_
 have HB := n4_
 clear n0_ n1_ n2_ n3_ n4_
 (try clear hb)
 (try clear hb2)
 (try clear hk)
 (try clear hi)
 (try clear ho0)
 obtain ⟨Ao11, co11, eo11⟩ := Kd.V_slice HO238.out
 (first | subst eo11 | (injection eo11 with f1_ f2_ f3_; have f4_ := f1_.symm; have f5_ := f3_.symm; clear f1_ f2_ f3_; subst f4_; subst f5_))
 obtain ⟨Ao12, co12, eo12⟩ := Kd.V_slice HO242.out
 (first | subst eo12 | (injection eo12 with f1_ f2_ f3_; have f4_ := f1_.symm; have f5_ := f3_.symm; clear f1_ f2_ f3_; subst f4_; subst f5_))
 refine hK.out _ _ ⟨(blk_cell BK233.out 0).trans rfl, (blk_cell BK233.out 1).trans rfl, (blk_cell BK234.out 0).trans rfl, (blk_cell BK234.out 1).trans rfl⟩ (fun hHeld => ?_)
 clear hK K
 refine norm_ (a' := ?_) ?_ ?_
 rotate_left
 ·show Act.put _ (some 8) _ = _
  simp only [sq, i64_w, i32_w]
  rfl
 refine one_ (i := 4) (N := some 9) (bm 6 31) rfl rfl (by kernel_rfl) (by decide) (fun K hK => ?_)
 refine gs Tryz.func60 #[.agg #[.bool t235, .slice Ao11 t236.length co11], .agg #[.bool t239, .slice Ao12 t240.length co12]] ?_
 with_reducible refine (interchangeref1_Cmp.calls k t235 _ _ t236 t239 _ _ t240 t243 _ ?side1 ?side2 ?side3 ?side4 A5.out).mono ?_
 (case side1 => repeat (first | exact (Kd.V_reads' HO238.out).2.2 | (with_reducible refine Kd.C_alloc ?_ _) | (with_reducible refine Kd.C_drewN ?_ _) | (with_reducible refine Kd.C_drew ?_)))
 (case side2 => exact (Kd.V_reads' HO238.out).2.1)
 (case side3 => repeat (first | exact (Kd.V_reads' HO242.out).2.2 | (with_reducible refine Kd.C_alloc ?_ _) | (with_reducible refine Kd.C_drewN ?_ _) | (with_reducible refine Kd.C_drew ?_)))
 (case side4 => exact (Kd.V_reads' HO242.out).2.1)
 rintro e w13 ⟨rfl, hb⟩
 refine ⟨_, rfl, ?_⟩
 have n0_ := Aside0.mk (Kd.V_below (by (with_reducible repeat (first | apply Kd.V_alloc | apply Kd.V_drewN | apply Kd.V_drew)); exact HO238.out) hb)
 have n1_ := Aside0.mk (Kd.V_below (by (with_reducible repeat (first | apply Kd.V_alloc | apply Kd.V_drewN | apply Kd.V_drew)); exact HO242.out) hb)
 have n2_ := bb BK233 hb
 have n3_ := bb BK234 hb
 have n4_ := hs w hb
 clear HO238
 clear HO242
 clear BK233
 clear BK234
 clear HB
 have HO238 := n0_
 have HO242 := n1_
 have BK233 := n2_
 have BK234 := n3_
 have HB := n4_
 clear n0_ n1_ n2_ n3_ n4_
 (try clear hb)
 (try clear hb2)
 (try clear hk)
 (try clear hi)
 refine hK.out _ _ ⟨(blk_cell BK233.out 0).trans rfl, (blk_cell BK233.out 1).trans rfl, (blk_cell BK234.out 0).trans rfl, (blk_cell BK234.out 1).trans rfl⟩ (fun hHeld => ?_)
 clear hK K
 refine norm_ (a' := ?_) ?_ ?_
 rotate_left
 ·show Act.put _ (some 9) _ = _
  simp only [sq, i64_w, i32_w]
  rfl
 refine pure_ (i := 5) (N := some 4) (v := ?_) (a' := ?_) (bm 6 63) rfl rfl (by kernel_rfl) (fun _ _ _ h => h) (Or.inl ⟨by rfl, ?_⟩) ?_ ?_
 rotate_left
 ·intro w'
  go_simp
  with_reducible rfl
 rotate_left
 ·simp only [sq, i64_w, i32_w]
  rfl
 refine done_ (by kernel_rfl) ?_
 try go_wp2
 go_ret
 exact ⟨by first | rfl | (simp [errW_none, errW_some] <;> rfl) | (simp [*, errW_none, errW_some] <;> rfl), (zb w)⟩

/-! ### interchangeref10_isMass: function 20 -/
def interchangeref10_isMass.f (k : Nat) (a0_0 : Int) (a0_1 : Int) (a1 : Bool) : Option (Bool) := (interchangeref1_CheckDecimal.f a0_0 a0_1).bind fun t245 => (if t245 = 0 then (if a0_0 ≥ 0 then (if a0_0 > 0 then ((interchangeref10_cmp.f k a0_0 a0_1 1000000000 0).bind fun t246 => (if t246 ≤ 0 then (some (decide (a0_1 ≤ 3))) else (some false))) else (if a1 = true then (some false) else ((interchangeref10_cmp.f k a0_0 a0_1 1000000000 0).bind fun t247 => (if t247 ≤ 0 then (some (decide (a0_1 ≤ 3))) else (some false))))) else (some false)) else (some false))
theorem interchangeref10_isMass.mono : ∀ a0 a1 a2 k, LeO (interchangeref10_isMass.f k a0 a1 a2) (interchangeref10_isMass.f (k + 1) a0 a1 a2) := by
 intro a0 a1 a2 k
 unfold interchangeref10_isMass.f
 repeat' first | with_reducible first | exact interchangeref10_cmp.mono _ _ _ _ _ | exact lr _ | exact ln _ | refine li ?_ ?_ | refine lb ?_ fun _ => ?_ | exact interchangeref10_cmp.mono _ _ _ _ _ | exact ln _ | refine li ?_ ?_ | refine lb ?_ fun _ => ?_
set_option maxHeartbeats 8000000 in
set_option maxRecDepth 100000 in
theorem interchangeref10_isMass.calls (k : Nat) (a0_0 : Int) (a0_1 : Int) (a1 : Bool) (r : Bool) (w : World) (h : interchangeref10_isMass.f k a0_0 a0_1 a1 = some r) :
  Calls Tryz.prog 20 #[.agg #[.int .i64 a0_0, .int .i64 a0_1], .bool a1] w fun e w' => e = .returned (.bool r) ∧ Below w.heap.size w w' := by
 have hu39 := Tryz.underlying39
 have HB := Aside0.mk (Below.refl w.heap.size w)
 have H := h
 unfold interchangeref10_isMass.f at H
 clear h
 replace H := Option.bind_eq_some_iff.mp H
 obtain ⟨t245, A30, H⟩ := H
 try dsimp only at H
 have A3 := Aside0.mk A30
 clear A30
 by_cases c4 : t245 = 0
 ·rw [if_pos c4] at H
  have c4b0 : (t245 == 0) = true := beq_iff_eq.mpr c4
  have c4b1 : (t245 != 0) = false := bne_eq_false_iff_eq.mpr c4
  clear c4
  by_cases c5 : a0_0 ≥ 0
  ·rw [if_pos c5] at H
   have c5b0 : decide (0 ≤ a0_0) = true := decide_eq_true c5
   clear c5
   by_cases c6 : a0_0 > 0
   ·rw [if_pos c6] at H
    have c6b0 : decide (0 < a0_0) = true := decide_eq_true c6
    clear c6
    replace H := Option.bind_eq_some_iff.mp H
    obtain ⟨t246, A70, H⟩ := H
    try dsimp only at H
    have A7 := Aside0.mk A70
    clear A70
    by_cases c8 : t246 ≤ 0
    ·rw [if_pos c8] at H
     have c8b0 : decide (t246 ≤ 0) = true := decide_eq_true c8
     clear c8
     obtain rfl := Option.some.inj H
     go_enter Tryz.func20, Tryz.ntmps20
     go_wp2_with (first | ((with_reducible refine gD 2 rfl ?_); refine bx w 2 #[.int .i64 a0_0, .int .i64 a0_1] 39 ?_; intro gb244 hg w9 hb BK244 GW244 GE244; clear HB; intro HB; clear hb hg; obtain ⟨hcz10_0, hcz10_1, hfz10_0, hfz10_1⟩ := cz2 BK244) | ((with_reducible refine gC 39 rfl ?_); refine gl_ 6 Tryz.func39 #[.agg #[.int .i64 a0_0, .int .i64 a0_1]] ?_; (with_reducible refine (interchangeref1_CheckDecimal.calls a0_0 a0_1 t245 _ A3.out).mono ?_); rintro e w11 ⟨rfl, hb⟩; refine ⟨_, rfl, ?_⟩; replace BK244 := bb BK244 hb; replace HB := hs w hb; (try clear hb); obtain ⟨hcz12_0, hcz12_1, hfz12_0, hfz12_1⟩ := cz2 BK244) | (go_at_call 40; (with_reducible refine (interchangeref10_cmp.calls k a0_0 a0_1 1000000000 0 t246 _ A7.out).mono ?_); rintro e w13 ⟨rfl, hb⟩; replace BK244 := bb BK244 hb; replace HB := hs w hb; (try clear hb); obtain ⟨hcz14_0, hcz14_1, hfz14_0, hfz14_1⟩ := cz2 BK244))
     go_ret
     exact ⟨by first | rfl | (simp [errW_none, errW_some] <;> rfl) | (simp [*, errW_none, errW_some] <;> rfl), (zb w)⟩
    ·rw [if_neg c8] at H
     have c8b0 : decide (t246 ≤ 0) = false := decide_eq_false c8
     clear c8
     obtain rfl := Option.some.inj H
     go_enter Tryz.func20, Tryz.ntmps20
     go_wp2_with (first | ((with_reducible refine gD 2 rfl ?_); refine bx w 2 #[.int .i64 a0_0, .int .i64 a0_1] 39 ?_; intro gb244 hg w15 hb BK244 GW244 GE244; clear HB; intro HB; clear hb hg; obtain ⟨hcz16_0, hcz16_1, hfz16_0, hfz16_1⟩ := cz2 BK244) | ((with_reducible refine gC 39 rfl ?_); refine gl_ 6 Tryz.func39 #[.agg #[.int .i64 a0_0, .int .i64 a0_1]] ?_; (with_reducible refine (interchangeref1_CheckDecimal.calls a0_0 a0_1 t245 _ A3.out).mono ?_); rintro e w17 ⟨rfl, hb⟩; refine ⟨_, rfl, ?_⟩; replace BK244 := bb BK244 hb; replace HB := hs w hb; (try clear hb); obtain ⟨hcz18_0, hcz18_1, hfz18_0, hfz18_1⟩ := cz2 BK244) | (go_at_call 40; (with_reducible refine (interchangeref10_cmp.calls k a0_0 a0_1 1000000000 0 t246 _ A7.out).mono ?_); rintro e w19 ⟨rfl, hb⟩; replace BK244 := bb BK244 hb; replace HB := hs w hb; (try clear hb)))
     go_ret
     exact ⟨by first | rfl | (simp [errW_none, errW_some] <;> rfl) | (simp [*, errW_none, errW_some] <;> rfl), (zb w)⟩
   ·rw [if_neg c6] at H
    have c6b0 : decide (0 < a0_0) = false := decide_eq_false c6
    clear c6
    by_cases c20 : a1 = true
    ·subst c20
     have H1 : (some false) = some r := by rw [if_pos rfl] at H; exact H
     clear H
     have H := H1
     clear H1
     obtain rfl := Option.some.inj H
     go_enter Tryz.func20, Tryz.ntmps20
     go_wp2_with (first | ((with_reducible refine gD 2 rfl ?_); refine bx w 2 #[.int .i64 a0_0, .int .i64 a0_1] 39 ?_; intro gb244 hg w21 hb BK244 GW244 GE244; clear HB; intro HB; clear hb hg; obtain ⟨hcz22_0, hcz22_1, hfz22_0, hfz22_1⟩ := cz2 BK244) | ((with_reducible refine gC 39 rfl ?_); refine gl_ 6 Tryz.func39 #[.agg #[.int .i64 a0_0, .int .i64 a0_1]] ?_; (with_reducible refine (interchangeref1_CheckDecimal.calls a0_0 a0_1 t245 _ A3.out).mono ?_); rintro e w23 ⟨rfl, hb⟩; refine ⟨_, rfl, ?_⟩; replace BK244 := bb BK244 hb; replace HB := hs w hb; (try clear hb); obtain ⟨hcz24_0, hcz24_1, hfz24_0, hfz24_1⟩ := cz2 BK244))
     go_ret
     exact ⟨by first | rfl | (simp [errW_none, errW_some] <;> rfl) | (simp [*, errW_none, errW_some] <;> rfl), (zb w)⟩
    ·replace c20 := Bool.eq_false_iff.mpr c20
     subst c20
     have H1 : ((interchangeref10_cmp.f k a0_0 a0_1 1000000000 0).bind fun t247 => (if t247 ≤ 0 then (some (decide (a0_1 ≤ 3))) else (some false))) = some r := by rw [if_neg (show ¬ (false = true) by decide)] at H; exact H
     clear H
     have H := H1
     clear H1
     replace H := Option.bind_eq_some_iff.mp H
     obtain ⟨t247, A250, H⟩ := H
     try dsimp only at H
     have A25 := Aside0.mk A250
     clear A250
     by_cases c26 : t247 ≤ 0
     ·rw [if_pos c26] at H
      have c26b0 : decide (t247 ≤ 0) = true := decide_eq_true c26
      clear c26
      obtain rfl := Option.some.inj H
      go_enter Tryz.func20, Tryz.ntmps20
      go_wp2_with (first | ((with_reducible refine gD 2 rfl ?_); refine bx w 2 #[.int .i64 a0_0, .int .i64 a0_1] 39 ?_; intro gb244 hg w27 hb BK244 GW244 GE244; clear HB; intro HB; clear hb hg; obtain ⟨hcz28_0, hcz28_1, hfz28_0, hfz28_1⟩ := cz2 BK244) | ((with_reducible refine gC 39 rfl ?_); refine gl_ 6 Tryz.func39 #[.agg #[.int .i64 a0_0, .int .i64 a0_1]] ?_; (with_reducible refine (interchangeref1_CheckDecimal.calls a0_0 a0_1 t245 _ A3.out).mono ?_); rintro e w29 ⟨rfl, hb⟩; refine ⟨_, rfl, ?_⟩; replace BK244 := bb BK244 hb; replace HB := hs w hb; (try clear hb); obtain ⟨hcz30_0, hcz30_1, hfz30_0, hfz30_1⟩ := cz2 BK244) | (go_at_call 40; (with_reducible refine (interchangeref10_cmp.calls k a0_0 a0_1 1000000000 0 t247 _ A25.out).mono ?_); rintro e w31 ⟨rfl, hb⟩; replace BK244 := bb BK244 hb; replace HB := hs w hb; (try clear hb); obtain ⟨hcz32_0, hcz32_1, hfz32_0, hfz32_1⟩ := cz2 BK244))
      go_ret
      exact ⟨by first | rfl | (simp [errW_none, errW_some] <;> rfl) | (simp [*, errW_none, errW_some] <;> rfl), (zb w)⟩
     ·rw [if_neg c26] at H
      have c26b0 : decide (t247 ≤ 0) = false := decide_eq_false c26
      clear c26
      obtain rfl := Option.some.inj H
      go_enter Tryz.func20, Tryz.ntmps20
      go_wp2_with (first | ((with_reducible refine gD 2 rfl ?_); refine bx w 2 #[.int .i64 a0_0, .int .i64 a0_1] 39 ?_; intro gb244 hg w33 hb BK244 GW244 GE244; clear HB; intro HB; clear hb hg; obtain ⟨hcz34_0, hcz34_1, hfz34_0, hfz34_1⟩ := cz2 BK244) | ((with_reducible refine gC 39 rfl ?_); refine gl_ 6 Tryz.func39 #[.agg #[.int .i64 a0_0, .int .i64 a0_1]] ?_; (with_reducible refine (interchangeref1_CheckDecimal.calls a0_0 a0_1 t245 _ A3.out).mono ?_); rintro e w35 ⟨rfl, hb⟩; refine ⟨_, rfl, ?_⟩; replace BK244 := bb BK244 hb; replace HB := hs w hb; (try clear hb); obtain ⟨hcz36_0, hcz36_1, hfz36_0, hfz36_1⟩ := cz2 BK244) | (go_at_call 40; (with_reducible refine (interchangeref10_cmp.calls k a0_0 a0_1 1000000000 0 t247 _ A25.out).mono ?_); rintro e w37 ⟨rfl, hb⟩; replace BK244 := bb BK244 hb; replace HB := hs w hb; (try clear hb)))
      go_ret
      exact ⟨by first | rfl | (simp [errW_none, errW_some] <;> rfl) | (simp [*, errW_none, errW_some] <;> rfl), (zb w)⟩
  ·rw [if_neg c5] at H
   have c5b0 : decide (0 ≤ a0_0) = false := decide_eq_false c5
   clear c5
   obtain rfl := Option.some.inj H
   go_enter Tryz.func20, Tryz.ntmps20
   go_wp2_with (first | ((with_reducible refine gD 2 rfl ?_); refine bx w 2 #[.int .i64 a0_0, .int .i64 a0_1] 39 ?_; intro gb244 hg w38 hb BK244 GW244 GE244; clear HB; intro HB; clear hb hg; obtain ⟨hcz39_0, hcz39_1, hfz39_0, hfz39_1⟩ := cz2 BK244) | ((with_reducible refine gC 39 rfl ?_); refine gl_ 6 Tryz.func39 #[.agg #[.int .i64 a0_0, .int .i64 a0_1]] ?_; (with_reducible refine (interchangeref1_CheckDecimal.calls a0_0 a0_1 t245 _ A3.out).mono ?_); rintro e w40 ⟨rfl, hb⟩; refine ⟨_, rfl, ?_⟩; replace BK244 := bb BK244 hb; replace HB := hs w hb; (try clear hb); obtain ⟨hcz41_0, hcz41_1, hfz41_0, hfz41_1⟩ := cz2 BK244))
   go_ret
   exact ⟨by first | rfl | (simp [errW_none, errW_some] <;> rfl) | (simp [*, errW_none, errW_some] <;> rfl), (zb w)⟩
 ·rw [if_neg c4] at H
  have c4b0 : (t245 == 0) = false := beq_eq_false_iff_ne.mpr c4
  have c4b1 : (t245 != 0) = true := bne_iff_ne.mpr c4
  obtain rfl := Option.some.inj H
  go_enter Tryz.func20, Tryz.ntmps20
  go_wp2_with (first | ((with_reducible refine gD 2 rfl ?_); refine bx w 2 #[.int .i64 a0_0, .int .i64 a0_1] 39 ?_; intro gb244 hg w42 hb BK244 GW244 GE244; clear HB; intro HB; clear hb hg; obtain ⟨hcz43_0, hcz43_1, hfz43_0, hfz43_1⟩ := cz2 BK244) | ((with_reducible refine gC 39 rfl ?_); refine gl_ 6 Tryz.func39 #[.agg #[.int .i64 a0_0, .int .i64 a0_1]] ?_; (with_reducible refine (interchangeref1_CheckDecimal.calls a0_0 a0_1 t245 _ A3.out).mono ?_); rintro e w44 ⟨rfl, hb⟩; refine ⟨_, rfl, ?_⟩; replace BK244 := bb BK244 hb; replace HB := hs w hb; (try clear hb)))
  go_ret
  exact ⟨by first | rfl | (simp [errW_none, errW_some] <;> rfl) | (simp [*, errW_none, errW_some] <;> rfl), (zb w)⟩

end Go.Proofs.YthgefhnolmloiaaGreatDoor.P3
