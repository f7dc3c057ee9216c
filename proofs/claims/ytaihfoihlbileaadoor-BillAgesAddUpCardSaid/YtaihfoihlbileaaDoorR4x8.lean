-- Made by a program of this session out of the translation (wip/pp.py): functions, contracts.
import Derived.Test.YtaihfoihlbileaaDoorR4x0
import Derived.Test.YtaihfoihlbileaaDoorR4x6
import Derived.Test.YtaihfoihlbileaaDoorR4x7
namespace Go.Proofs.YtaihfoihlbileaaDoor.R4
open Go.RowKit Go.Proofs.YtaihfoihlbileaaDoorW.PrintWords Go.Proofs.YtaihfoihlbileaaDoorW.PrintLast Go.Proofs.YtaihfoihlbileaaDoorW.PrintMore
attribute [local go_sem] max2_int min2_int max_two min_two max_three min_three max_four min_four   -- for this text's walks alone
set_option linter.unusedVariables false
set_option linter.unusedSimpArgs false

/-! ### interchangeref1_Of: function 48 -/
def interchangeref1_Of.l0 : Nat → Int → Bool → List Int → Option (Bool × List Int)
 | 0, _, _, _ => none
 | k + 1, x0, x351000, x351001 => if x0 = 0 then (some (x351000, x351001)) else (if x351001.length < 17592186044416 then (interchangeref1_Of.l0 k (wrap64 (Int.tdiv x0 1000000)) x351000 (x351001 ++ [mx (Int.tmod x0 1000000) (wrap64 (-(Int.tmod x0 1000000)))])) else (none))
def interchangeref1_Of.f (k : Nat) (a0 : Int) : Option (Bool × List Int) := interchangeref1_Of.l0 k a0 (decide (a0 < 0)) ([] : List Int)
theorem interchangeref1_Of.mono_l : ∀ k, (∀ y0 y1 y2, LeO (interchangeref1_Of.l0 k y0 y1 y2) (interchangeref1_Of.l0 (k + 1) y0 y1 y2))
 | 0 => fun _ _ _ r h => by simp [interchangeref1_Of.l0] at h
 | k + 1 => by
  have ih0 := interchangeref1_Of.mono_l k
  ·intro y0 y1 y2
   unfold interchangeref1_Of.l0
   repeat' first | with_reducible first | exact ih0 _ _ _ | exact lr _ | exact ln _ | refine li ?_ ?_ | refine lb ?_ fun _ => ?_ | exact ih0 _ _ _ | exact ln _ | refine li ?_ ?_ | refine lb ?_ fun _ => ?_
theorem interchangeref1_Of.mono : ∀ a0 k, LeO (interchangeref1_Of.f k a0) (interchangeref1_Of.f (k + 1) a0) := by
 intro a0 k
 have ih0 := interchangeref1_Of.mono_l k
 unfold interchangeref1_Of.f
 repeat' first | with_reducible first | exact ih0 _ _ _ | exact lr _ | exact ln _ | refine li ?_ ?_ | refine lb ?_ fun _ => ?_ | exact ih0 _ _ _ | exact ln _ | refine li ?_ ?_ | refine lb ?_ fun _ => ?_
set_option maxHeartbeats 8000000 in
set_option maxRecDepth 100000 in
theorem interchangeref1_Of.calls (k : Nat) (a0 : Int) (r1 : Bool) (r2 : List Int) (w : World) (h : interchangeref1_Of.f k a0 = some (r1, r2)) :
  Calls Tryd.prog 48 #[.int .i64 a0] w fun e w' => ∃ v1_ : Value, e = .returned (.agg #[.bool r1, v1_]) ∧ Kd.R (Kd.int .i64) 3 w' w.heap.size (fun _ => True) v1_ r2 ∧ Below w.heap.size w w' := by
 have hu40 := Tryd.underlying40
 have HB := Aside0.mk (Below.refl w.heap.size w)
 have H := h
 unfold interchangeref1_Of.f at H
 clear h
 have H' := Aside0.mk H
 clear H
 go_enter Tryd.func48, Tryd.ntmps48
 go_wp2_with (first | ((with_reducible refine gD 2 rfl ?_); refine bx w 2 #[.bool false, .slice none 0 0] 40 ?_; intro gb349 hg w2 hb BK349 GW349 GE349; clear HB; intro HB; clear hb hg) | ((with_reducible refine gD 3 rfl ?_); refine bx w 3 #[.bool false, .slice none 0 0] 40 ?_; intro gb350 hg w3 hb BK350 GW350 GE350; clear HB; intro HB; have NB349_350 := nbl BK349 hg; have NB350_349 := nbr BK349 hg; replace BK349 := bb BK349 hb; clear hb hg; have hnb4 := NB350_349.out; have hnc4 := NB349_350.out; obtain ⟨hcz5_0, hcz5_1, hfz5_0, hfz5_1⟩ := cz2 BK350))
 try simp only [sq]
 go_loopg [0] k (fun kq v0 w' => ∃ (x0_1 : Int) (x351001_1 : List Int) (u351001 : Value), v0 = .int .i64 x0_1 ∧ Aside0 (interchangeref1_Of.l0 kq x0_1 (decide (a0 < 0)) x351001_1 = some (r1, r2)) ∧ Aside0 (kq ≤ k) ∧ Aside0 (Kd.R (Kd.int .i64) 3 w' w.heap.size (fun _ => True) u351001 x351001_1) ∧ Aside0 (w'.heap[gb349]? = some (.cells #[.bool false, (.slice none 0 0)] 40 (0, 0))) ∧ Aside0 (w'.heap[gb350]? = some (.cells #[.bool (decide (a0 < 0)), u351001] 40 (0, 0))) ∧ Aside0 (Below w.heap.size w w'))
 case atStart => exact ⟨(a0), (([] : List Int)), (.slice none 0 0), ar, H', ⟨Nat.le_refl _⟩, ⟨by first | exact Kd.R_nil _ _ _ _ _ | exact Kd.N_nil _ _ _ _ _ | exact Kd.V_nil _ _ _ _ _ | exact Kd.Q_nil _ _ _ _ _ | exact Kd.S_nil _ _ _ _ _⟩, ⟨by (with_reducible repeat (first | refine blk_drewN ?_ _ | refine blk_drew ?_ | refine blk_alloc ?_ _)); refine blk_far ?_ NB349_350.out _; (with_reducible repeat (first | refine blk_drewN ?_ _ | refine blk_drew ?_ | refine blk_alloc ?_ _)); refine blk_far ?_ NB349_350.out _; exact zk BK349⟩, ⟨by (with_reducible repeat (first | refine blk_drewN ?_ _ | refine blk_drew ?_ | refine blk_alloc ?_ _)); refine blk_put (cs := #[.bool (decide (a0 < 0)), .slice none 0 0]) ?_ 1 _ rfl; (with_reducible repeat (first | refine blk_drewN ?_ _ | refine blk_drew ?_ | refine blk_alloc ?_ _)); refine blk_put (cs := #[.bool false, .slice none 0 0]) ?_ 0 _ rfl; exact zk BK350⟩, ⟨(zb w)⟩⟩
 case round =>
  clear H'
  try clear p2
  try clear c4
  try clear hcz5_0 hcz5_1 hfz5_0 hfz5_1
  obtain ⟨x0_1, x351001_1, u351001, rfl, HA, HK1, HO_351001, BK349, BK350, HB⟩ := hrel
  cases gk with
  | zero => exact absurd HA.out (by simp [interchangeref1_Of.l0])
  | succ k1 =>
   have H := HA.out
   clear HA
   simp only [interchangeref1_Of.l0] at H
   by_cases c6 : x0_1 = 0
   ·rw [if_pos c6] at H
    have c6b0 : (x0_1 == 0) = true := beq_iff_eq.mpr c6
    have c6b1 : (x0_1 != 0) = false := bne_eq_false_iff_eq.mpr c6
    clear c6
    simp only [Option.some.injEq, Prod.mk.injEq] at H
    obtain ⟨rfl, rfl⟩ := H
    have hnb7 := NB350_349.out
    have hnc7 := NB349_350.out
    obtain ⟨hcz8_0, hcz8_1, hfz8_0, hfz8_1⟩ := cz2 BK350
    obtain ⟨hcz9_0, hcz9_1, hfz9_0, hfz9_1⟩ := cz2 BK349
    obtain ⟨Ao10, co10, eo10⟩ := Kd.R_slice HO_351001.out
    subst eo10
    go_wp2
    refine bodyPost_ret (results_cell_row rfl _ _ gb349 40 #[.bool (decide (a0 < 0)), .slice Ao10 x351001_1.length co10] (0, 0) _ rfl (by (with_reducible repeat (first | refine blk_drewN ?_ _ | refine blk_drew ?_ | refine blk_alloc ?_ _)); refine blk_put (cs := #[.bool (decide (a0 < 0)), .slice none 0 0]) ?_ 1 _ rfl; (with_reducible repeat (first | refine blk_drewN ?_ _ | refine blk_drew ?_ | refine blk_alloc ?_ _)); refine blk_put (cs := #[.bool false, .slice none 0 0]) ?_ 0 _ rfl; exact zk BK349) Tryd.underlying40 rfl (by kernel_rfl)) rfl ?_
    exact ⟨_, by first | rfl | (simp [errW_none, errW_some] <;> rfl) | (simp [*, errW_none, errW_some] <;> rfl), by (with_reducible repeat (first | apply Kd.R_alloc | apply Kd.R_drewN | apply Kd.R_drew)); exact Kd.R_mono (Kd.R_far (p := ⟨gb349, 1, none⟩) (Kd.R_far (p := ⟨gb349, 0, none⟩) (Kd.R_types HO_351001.out BK349.out (by decide)) (fun _ hk => hk.2) (.bool (decide (a0 < 0)))) (fun _ hk => hk.2) (.slice Ao10 x351001_1.length co10)) (fun _ hk => trivial), (zb w)⟩
   ·rw [if_neg c6] at H
    have c6b0 : (x0_1 == 0) = false := beq_eq_false_iff_ne.mpr c6
    have c6b1 : (x0_1 != 0) = true := bne_iff_ne.mpr c6
    obtain ⟨ji11, hji11⟩ : ∃ j_ : Int, (mx (Int.tmod x0_1 1000000) (wrap64 (-(Int.tmod x0_1 1000000)))) = j_ := ⟨_, rfl⟩
    replace H : (if x351001_1.length < 17592186044416 then (interchangeref1_Of.l0 k1 (wrap64 (Int.tdiv x0_1 1000000)) (decide (a0 < 0)) (x351001_1 ++ [ji11])) else (none)) = some (r1, r2) := by first | (rw [hji11] at H; exact H) | (simp only [hji11] at H ⊢; exact H)
    have hji11_ : (if (Int.tmod x0_1 1000000) < (wrap64 (-(Int.tmod x0_1 1000000))) then (wrap64 (-(Int.tmod x0_1 1000000))) else (Int.tmod x0_1 1000000)) = ji11 := hji11
    by_cases c12 : x351001_1.length < 17592186044416
    ·rw [if_pos c12] at H
     have LMc12 := Aside0.mk c12
     clear c12
     obtain ⟨y351, hy351⟩ : ∃ y_ : List Int, y_ = (x351001_1 ++ [ji11]) := ⟨_, rfl⟩
     replace H : (interchangeref1_Of.l0 k1 (wrap64 (Int.tdiv x0_1 1000000)) (decide (a0 < 0)) y351) = some (r1, r2) := by first | (rw [hy351]; with_reducible exact H) | (have H2_ := (Option.bind_some _ _).symm.trans H; rw [hy351]; with_reducible exact H2_) | (have H2_ := (Option.bind_some _ _).symm.trans H; with_reducible exact H2_) | with_reducible exact H | (rw [hy351]; exact H) | exact H
     have Ny351 := Aside0.mk hy351
     clear hy351
     have H' := Aside0.mk H
     clear H
     have hnb13 := NB350_349.out
     have hnc13 := NB349_350.out
     obtain ⟨hcz14_0, hcz14_1, hfz14_0, hfz14_1⟩ := cz2 BK350
     go_wp2_with (first | ((with_reducible refine gate_builtin (b := .append) (xs := #[.tmp 13, .tmp 18]) rfl ?_); at_builtin; refine Kd.R_append (Kd.int .i64) (w0 := w) w.heap.size rfl (.tmp 13) (.tmp 18) 38 3 (.int .i64 0) 8 rfl Tryd.underlying38 info3 rfl (by decide) (by omega) u351001 x351001_1 ji11 [.int .i64 ji11] (fun _ => True) (fun _ => False) rfl rfl ?aP (fun _ hk => hk.elim) ?aF ?aO ?aB ?aS ?aL ?_; (case aP => exact rfl); (case aB => exact (zb w)); (case aF => exact (fun _ _ => trivial)); (case aO => exact (zo HO_351001)); (case aS => exact (below_size (zb w))); (case aL => have := LMc12.out; omega); intro v352 w15 ho hb hg hat; rw [← Ny351.out] at ho; replace BK349 := Aside0.mk (blk_grown (g := gb349) (o := .cells #[.bool false, .slice none 0 0] 40 (0, 0)) (zk BK349) hg (Kd.R_ne HO_351001.out BK349.out (by decide))); replace BK350 := Aside0.mk (blk_grown (g := gb350) (o := .cells #[.bool (decide (a0 < 0)), u351001] 40 (0, 0)) (zk BK350) hg (Kd.R_ne HO_351001.out BK350.out (by decide))); replace HB := Aside0.mk (hb); have HO353 := Aside0.mk (ho); clear HO_351001; clear ho hb hg hat; obtain ⟨Ao16, co16, eo16⟩ := Kd.R_slice HO353.out; subst eo16; obtain ⟨hcz17_0, hcz17_1, hfz17_0, hfz17_1⟩ := cz2 BK350))
     go_roundg k1
     case measure => have := HK1.out; omega
     case rel => exact ⟨(wrap64 (Int.tdiv x0_1 1000000)), (y351), (.slice Ao16 y351.length co16), ar, H', ⟨by have := HK1.out; omega⟩, ⟨by (with_reducible repeat (first | apply Kd.R_alloc | apply Kd.R_drewN | apply Kd.R_drew)); exact Kd.R_mono (Kd.R_far (p := ⟨gb350, 1, none⟩) (Kd.R_types HO353.out BK350.out (by decide)) (fun _ hk => hk.2) (.slice Ao16 y351.length co16)) (fun _ hk => trivial)⟩, ⟨by (with_reducible repeat (first | refine blk_drewN ?_ _ | refine blk_drew ?_ | refine blk_alloc ?_ _)); refine blk_far ?_ NB349_350.out _; exact zk BK349⟩, ⟨by (with_reducible repeat (first | refine blk_drewN ?_ _ | refine blk_drew ?_ | refine blk_alloc ?_ _)); refine blk_put (cs := #[.bool (decide (a0 < 0)), u351001]) ?_ 1 _ rfl; exact zk BK350⟩, ⟨(zb w)⟩⟩
    ·rw [if_neg c12] at H
     exact absurd H (by simp)

/-! ### interchangeref1_Power: function 49 -/
def interchangeref1_Power.l0 : Nat → Int → Int → Bool → List Int → Option (Bool × List Int)
 | 0, _, _, _, _ => none
 | k + 1, x5, x6, x360000, x360001 => if x6 < x5 then ((interchangeref1_Of.f k 10).bind fun bt360 => ((interchangeref1_TimesOf.f k x360000 x360001 bt360.1 bt360.2).bind fun bt364 => (interchangeref1_Power.l0 k x5 (wrap64 (x6 + 1)) bt364.1 bt364.2))) else (some (x360000, x360001))
def interchangeref1_Power.f (k : Nat) (a0 : Int) : Option (Bool × List Int) := (interchangeref1_Of.f k 1).bind fun bt355 => (interchangeref1_Power.l0 k a0 0 bt355.1 bt355.2)
theorem interchangeref1_Power.mono_l : ∀ k, (∀ y0 y1 y2 y3, LeO (interchangeref1_Power.l0 k y0 y1 y2 y3) (interchangeref1_Power.l0 (k + 1) y0 y1 y2 y3))
 | 0 => fun _ _ _ _ r h => by simp [interchangeref1_Power.l0] at h
 | k + 1 => by
  have ih0 := interchangeref1_Power.mono_l k
  ·intro y0 y1 y2 y3
   unfold interchangeref1_Power.l0
   repeat' first | with_reducible first | exact ih0 _ _ _ _ | exact interchangeref1_Of.mono _ _ | exact interchangeref1_TimesOf.mono _ _ _ _ _ | exact lr _ | exact ln _ | refine li ?_ ?_ | refine lb ?_ fun _ => ?_ | exact ih0 _ _ _ _ | exact interchangeref1_Of.mono _ _ | exact interchangeref1_TimesOf.mono _ _ _ _ _ | exact ln _ | refine li ?_ ?_ | refine lb ?_ fun _ => ?_
theorem interchangeref1_Power.mono : ∀ a0 k, LeO (interchangeref1_Power.f k a0) (interchangeref1_Power.f (k + 1) a0) := by
 intro a0 k
 have ih0 := interchangeref1_Power.mono_l k
 unfold interchangeref1_Power.f
 repeat' first | with_reducible first | exact ih0 _ _ _ _ | exact interchangeref1_Of.mono _ _ | exact interchangeref1_TimesOf.mono _ _ _ _ _ | exact lr _ | exact ln _ | refine li ?_ ?_ | refine lb ?_ fun _ => ?_ | exact ih0 _ _ _ _ | exact interchangeref1_Of.mono _ _ | exact interchangeref1_TimesOf.mono _ _ _ _ _ | exact ln _ | refine li ?_ ?_ | refine lb ?_ fun _ => ?_
set_option maxHeartbeats 8000000 in
set_option maxRecDepth 100000 in
theorem interchangeref1_Power.calls (k : Nat) (a0 : Int) (r1 : Bool) (r2 : List Int) (w : World) (h : interchangeref1_Power.f k a0 = some (r1, r2)) :
  Calls Tryd.prog 49 #[.int .i64 a0] w fun e w' => ∃ v1_ : Value, e = .returned (.agg #[.bool r1, v1_]) ∧ Kd.V (Kd.int .i64) 3 w' w.heap.size (fun k_ => (w.heap.size ≤ k_)) v1_ r2 ∧ Below w.heap.size w w' := by
 have hu40 := Tryd.underlying40
 have HB := Aside0.mk (Below.refl w.heap.size w)
 have H := h
 unfold interchangeref1_Power.f at H
 clear h
 replace H := Option.bind_eq_some_iff.mp H
 obtain ⟨⟨t355, t356⟩, A20, H⟩ := H
 try dsimp only at H
 have A2 := Aside0.mk A20
 clear A20
 have H' := Aside0.mk H
 clear H
 go_enter Tryd.func49, Tryd.ntmps49
 go_wp2_with (first | ((with_reducible refine gD 2 rfl ?_); refine bx w 2 #[.bool false, .slice none 0 0] 40 ?_; intro gb354 hg w3 hb BK354 GW354 GE354; clear HB; intro HB; clear hb hg) | ((with_reducible refine gC 48 rfl ?_); refine gl_ 4 Tryd.func48 #[.int .i64 1] ?_; (with_reducible refine (interchangeref1_Of.calls k 1 t355 t356 _ A2.out).mono ?_); rintro e w4 ⟨v357, rfl, ho0, hb⟩; refine ⟨_, rfl, ?_⟩; have HO358 := Aside0.mk (Kd.R_lower (Kd.R_newM (M := fun k_ => (w.heap.size ≤ k_)) ho0 (below_size (zb w)) (fun k_ h_ => h_)) (below_size (zb w))); replace BK354 := bb BK354 hb; replace HB := hs w hb; (try clear hb); (try clear ho0)) | ((with_reducible refine gD 3 rfl ?_); refine box_event ?hg (N := 3) ?hd (cs := #[.bool false, .slice none 0 0]) (t := 40) ?hr ?_; (case hd => rfl); (case hg => rfl); (case hr => first | (go_simp; done) | (go_simp; rfl)); intro gb359 hg w5 hbox hb; replace HO358 := rb HO358 hb; have BK359 := Aside0.mk (hbox); have GW359 := Aside0.mk ((by rw [hg]; exact (below_size (zb w)) : w.heap.size ≤ gb359)); have GE359 := Aside0.mk ((by rw [hg]; exact (below_size (zb w)) : w.heap.size ≤ gb359)); replace HB := hs w hb; have NB354_359 := nbl BK354 hg; have NB359_354 := nbr BK354 hg; replace BK354 := bb BK354 hb; clear hb hg; have hnb6 := NB359_354.out; have hnc6 := NB354_359.out; obtain ⟨hcz7_0, hcz7_1, hfz7_0, hfz7_1⟩ := cz2 BK359; obtain ⟨Ao8, co8, eo8⟩ := Kd.R_slice HO358.out; subst eo8))
 try simp only [sq]
 go_loopg [6] k (fun kq v6 w' => ∃ (x6_1 : Int) (x360000_1 : Bool) (x360001_1 : List Int) (u360001 : Value), v6 = .int .i64 x6_1 ∧ Aside0 (interchangeref1_Power.l0 kq a0 x6_1 x360000_1 x360001_1 = some (r1, r2)) ∧ Aside0 (kq ≤ k) ∧ Aside0 (Kd.V (Kd.int .i64) 3 w' w.heap.size (fun k_ => (w.heap.size ≤ k_) ∧ k_ ≠ gb354 ∧ k_ ≠ gb359) u360001 x360001_1) ∧ Aside0 (w'.heap[gb354]? = some (.cells #[.bool false, (.slice none 0 0)] 40 (0, 0))) ∧ Aside0 (w'.heap[gb359]? = some (.cells #[.bool x360000_1, u360001] 40 (0, 0))) ∧ Aside0 (Below w.heap.size w w'))
 case atStart => exact ⟨(0), (t355), (t356), (.slice Ao8 t356.length co8), ar, H', ⟨Nat.le_refl _⟩, ⟨Kd.R_V (by (with_reducible repeat (first | apply Kd.R_alloc | apply Kd.R_drewN | apply Kd.R_drew)); exact Kd.R_mono (Kd.R_far (p := ⟨gb359, 1, none⟩) (Kd.R_far (p := ⟨gb359, 0, none⟩) (Kd.R_types (Kd.R_types (Kd.R_types HO358.out BK354.out (by decide)) BK359.out (by decide)) BK359.out (by decide)) (fun _ hk => hk.2) (.bool t355)) (fun _ hk => hk.2) (.slice Ao8 t356.length co8)) (fun _ hk => ⟨hk.1.1.1.1, ⟨hk.1.1.2, hk.1.2⟩⟩))⟩, ⟨by (with_reducible repeat (first | refine blk_drewN ?_ _ | refine blk_drew ?_ | refine blk_alloc ?_ _)); refine blk_far ?_ NB354_359.out _; (with_reducible repeat (first | refine blk_drewN ?_ _ | refine blk_drew ?_ | refine blk_alloc ?_ _)); refine blk_far ?_ NB354_359.out _; exact zk BK354⟩, ⟨by (with_reducible repeat (first | refine blk_drewN ?_ _ | refine blk_drew ?_ | refine blk_alloc ?_ _)); refine blk_put (cs := #[.bool t355, .slice none 0 0]) ?_ 1 _ rfl; (with_reducible repeat (first | refine blk_drewN ?_ _ | refine blk_drew ?_ | refine blk_alloc ?_ _)); refine blk_put (cs := #[.bool false, .slice none 0 0]) ?_ 0 _ rfl; exact zk BK359⟩, ⟨(zb w)⟩⟩
 case round =>
  clear H'
  try clear p2
  try clear c4
  try clear c6
  try clear hcz7_0 hcz7_1 hfz7_0 hfz7_1
  obtain ⟨x6_1, x360000_1, x360001_1, u360001, rfl, HA, HK1, HO_360001, BK354, BK359, HB⟩ := hrel
  cases gk with
  | zero => exact absurd HA.out (by simp [interchangeref1_Power.l0])
  | succ k1 =>
   have H := HA.out
   clear HA
   simp only [interchangeref1_Power.l0] at H
   by_cases c9 : x6_1 < a0
   ·rw [if_pos c9] at H
    have c9b0 : decide (x6_1 < a0) = true := decide_eq_true c9
    clear c9
    replace H := Option.bind_eq_some_iff.mp H
    obtain ⟨⟨t360, t361⟩, A100, H⟩ := H
    try dsimp only at H
    have A10 := Aside0.mk A100
    clear A100
    replace H := Option.bind_eq_some_iff.mp H
    obtain ⟨⟨t364, t365⟩, A110, H⟩ := H
    try dsimp only at H
    have A11 := Aside0.mk A110
    clear A110
    have H' := Aside0.mk H
    clear H
    try go_wp2
    have n0_ := Aside0.mk (Kd.V_drew HO_360001.out)
    have n1_ := Aside0.mk (blk_drew BK354.out)
    have n2_ := Aside0.mk (blk_drew BK359.out)
    have n3_ := Aside0.mk (below_drew1 HB.out)
    clear HO_360001
    clear BK354
    clear BK359
    clear HB
    have HO_360001 := n0_
    have BK354 := n1_
    have BK359 := n2_
    have HB := n3_
    clear n0_ n1_ n2_ n3_
    refine start_ (n := 4) (S := fun w' => w'.cell? ⟨gb359, 0, none⟩ = some (.bool x360000_1) ∧ w'.cell? ⟨gb359, 1, none⟩ = some (u360001)) (ds := [3]) (bm 4 0) (by kernel_rfl) rfl rfl ⟨(blk_cell BK359.out 0).trans rfl, (blk_cell BK359.out 1).trans rfl⟩ (fun hHeld => ?_)
    generalize wr.drew = w12 at HO_360001 BK354 BK359 HB hHeld ⊢
    refine take_ (i := 0) (N := some 8) (v := ?_) (a' := ?_) (bm 4 1) rfl rfl (by kernel_rfl) (fun _ _ _ h => h) (Or.inl ⟨by rfl, ?_⟩) hHeld ?_ ?_
    rotate_left
    ·rintro w' ⟨s0, s1⟩
     go_simp
     with_reducible rfl
    rotate_left
    ·simp only [sq, i64_w, i32_w]
     rfl
    refine one_ (i := 1) (N := some 9) (bm 4 3) rfl rfl (by kernel_rfl) (by decide) (fun K hK => ?_)
    refine gs Tryd.func48 #[.int .i64 10] ?_
    with_reducible refine (interchangeref1_Of.calls k1 10 t360 t361 _ A10.out).mono ?_
    rintro e w13 ⟨v362, rfl, ho0, hb⟩
    refine ⟨_, rfl, ?_⟩
    have n0_ := Aside0.mk (Kd.V_elder' (by (with_reducible repeat (first | apply Kd.V_alloc | apply Kd.V_drewN | apply Kd.V_drew)); exact HO_360001.out) (Kd.R_base ho0) hb)
    have n1_ := Aside0.mk (Kd.R_lower (Kd.R_newM (M := fun k_ => (w.heap.size ≤ k_)) ho0 (below_size (zb w)) (fun k_ h_ => h_)) (below_size (zb w)))
    have n2_ := bb BK354 hb
    have n3_ := bb BK359 hb
    have n4_ := hs w hb
    clear HO_360001
    clear BK354
    clear BK359
    clear HB
    have HO_360001 := n0_
    have HO363 := n1_
    have BK354 := n2_
    have BK359 := n3_
    have HB := n4_
    clear n0_ n1_ n2_ n3_ n4_
    (try clear hb)
    (try clear hb2)
    (try clear hk)
    (try clear hi)
    (try clear ho0)
    obtain ⟨Ao14, co14, eo14⟩ := Kd.V_slice HO_360001.out
    (first | subst eo14 | (injection eo14 with f1_ f2_ f3_; have f4_ := f1_.symm; have f5_ := f3_.symm; clear f1_ f2_ f3_; subst f4_; subst f5_))
    obtain ⟨Ao15, co15, eo15⟩ := Kd.R_slice HO363.out
    (first | subst eo15 | (injection eo15 with f1_ f2_ f3_; have f4_ := f1_.symm; have f5_ := f3_.symm; clear f1_ f2_ f3_; subst f4_; subst f5_))
    refine hK.out _ _ ⟨(blk_cell BK359.out 0).trans rfl, (blk_cell BK359.out 1).trans rfl⟩ (fun hHeld => ?_)
    clear hK K
    refine norm_ (a' := ?_) ?_ ?_
    rotate_left
    ·show Act.put _ (some 9) _ = _
     simp only [sq, i64_w, i32_w]
     rfl
    refine one_ (i := 2) (N := some 10) (bm 4 7) rfl rfl (by kernel_rfl) (by decide) (fun K hK => ?_)
    refine gs Tryd.func47 #[.agg #[.bool x360000_1, .slice Ao14 x360001_1.length co14], .agg #[.bool t360, .slice Ao15 t361.length co15]] ?_
    with_reducible refine (interchangeref1_TimesOf.calls k1 x360000_1 _ _ x360001_1 t360 _ _ t361 t364 t365 _ ?side1 ?side2 ?side3 ?side4 A11.out).mono ?_
    (case side1 => repeat (first | exact (Kd.V_reads' HO_360001.out).2.2 | (with_reducible refine Kd.C_alloc ?_ _) | (with_reducible refine Kd.C_drewN ?_ _) | (with_reducible refine Kd.C_drew ?_)))
    (case side2 => exact (Kd.V_reads' HO_360001.out).2.1)
    (case side3 => repeat (first | exact (Kd.R_reads' HO363.out).2.2 | (with_reducible refine Kd.C_alloc ?_ _) | (with_reducible refine Kd.C_drewN ?_ _) | (with_reducible refine Kd.C_drew ?_)))
    (case side4 => exact (Kd.R_reads' HO363.out).2.1)
    rintro e w16 ⟨v366, rfl, ho0, hb⟩
    refine ⟨_, rfl, ?_⟩
    have n0_ := Aside0.mk (Kd.V_below (by (with_reducible repeat (first | apply Kd.V_alloc | apply Kd.V_drewN | apply Kd.V_drew)); exact HO_360001.out) hb)
    have n1_ := rb HO363 hb
    have n2_ := Aside0.mk (Kd.V_lower (Kd.V_mono (ok' := fun k_ => (w.heap.size ≤ k_) ∧ some k_ ≠ (.slice Ao15 t361.length co15 : Value).ownBlock ∧ k_ ≠ gb354 ∧ k_ ≠ gb359) ho0 (fun k_ hk_ => ⟨(Nat.le_trans (below_size (zb w)) hk_), (Kd.fresh' (Kd.R_lt (zo HO363)) k_ hk_), (Kd.freshB (g := gb354) (o := .cells #[.bool false, .slice none 0 0] 40 (0, 0)) (zk BK354) k_ hk_), (Kd.freshB (g := gb359) (o := .cells #[.bool x360000_1, .slice Ao14 x360001_1.length co14] 40 (0, 0)) (zk BK359) k_ hk_)⟩)) (below_size (zb w)))
    have n3_ := bb BK354 hb
    have n4_ := bb BK359 hb
    have n5_ := hs w hb
    clear HO_360001
    clear HO363
    clear BK354
    clear BK359
    clear HB
    have HO_360001 := n0_
    have HO363 := n1_
    have HO367 := n2_
    have BK354 := n3_
    have BK359 := n4_
    have HB := n5_
    clear n0_ n1_ n2_ n3_ n4_ n5_
    (try clear hb)
    (try clear hb2)
    (try clear hk)
    (try clear hi)
    (try clear ho0)
    obtain ⟨Ao18, co18, eo18⟩ := Kd.V_slice HO367.out
    (first | subst eo18 | (injection eo18 with f1_ f2_ f3_; have f4_ := f1_.symm; have f5_ := f3_.symm; clear f1_ f2_ f3_; subst f4_; subst f5_))
    refine hK.out _ _ ⟨(blk_cell BK359.out 0).trans rfl, (blk_cell BK359.out 1).trans rfl⟩ (fun hHeld => ?_)
    clear hK K
    refine norm_ (a' := ?_) ?_ ?_
    rotate_left
    ·show Act.put _ (some 10) _ = _
     simp only [sq, i64_w, i32_w]
     rfl
    refine last_ (i := 3) (N := none) (bm 4 15) rfl rfl (by kernel_rfl) (by decide) (fun K hK => ?_)
    have hs17 : w16.cell? ⟨gb359, 0, none⟩ = some (.bool x360000_1) := (blk_cell BK359.out 0).trans rfl
    have hfs17 := blk_frozen BK359.out 0
    have hns17_0 := NB354_359.out
    have hms17_0 := NB359_354.out
    have hs19 : w16.cell? ⟨gb359, 1, none⟩ = some (.slice Ao14 x360001_1.length co14) := (blk_cell BK359.out 1).trans rfl
    have hfs19 := blk_frozen BK359.out 1
    have hns19_0 := NB354_359.out
    have hms19_0 := NB359_354.out
    refine skip_ (w1 := ?_) (by rfl) rfl ?_ ?_
    rotate_left
    ·go_simp
     rfl
    refine hK.out _ _ ?_
    clear hK K
    refine done_ (by kernel_rfl) ?_
    try go_wp2
    go_roundg k1
    case measure => have := HK1.out; omega
    case rel => exact ⟨(wrap64 (x6_1 + 1)), (t364), (t365), (.slice Ao18 t365.length co18), ar, H', ⟨by have := HK1.out; omega⟩, ⟨by (with_reducible repeat (first | apply Kd.V_alloc | apply Kd.V_drewN | apply Kd.V_drew)); exact Kd.V_mono (Kd.V_far (p := ⟨gb359, 1, none⟩) (Kd.V_far (p := ⟨gb359, 0, none⟩) (Kd.V_mono HO367.out (fun k_ hk => (⟨hk, hk.2.2.2⟩ : _ ∧ k_ ≠ gb359))) (fun _ hk => hk.2) (.bool t364)) (fun _ hk => hk.2) (.slice Ao18 t365.length co18)) (fun _ hk => ⟨hk.1.1, ⟨hk.1.2.2.1, hk.1.2.2.2⟩⟩)⟩, ⟨by (with_reducible repeat (first | refine blk_drewN ?_ _ | refine blk_drew ?_ | refine blk_alloc ?_ _)); refine blk_far ?_ NB354_359.out _; (with_reducible repeat (first | refine blk_drewN ?_ _ | refine blk_drew ?_ | refine blk_alloc ?_ _)); refine blk_far ?_ NB354_359.out _; exact zk BK354⟩, ⟨by (with_reducible repeat (first | refine blk_drewN ?_ _ | refine blk_drew ?_ | refine blk_alloc ?_ _)); refine blk_put (cs := #[.bool t364, .slice Ao14 x360001_1.length co14]) ?_ 1 _ rfl; (with_reducible repeat (first | refine blk_drewN ?_ _ | refine blk_drew ?_ | refine blk_alloc ?_ _)); refine blk_put (cs := #[.bool x360000_1, .slice Ao14 x360001_1.length co14]) ?_ 0 _ rfl; exact zk BK359⟩, ⟨(zb w)⟩⟩
   ·rw [if_neg c9] at H
    have c9b0 : decide (x6_1 < a0) = false := decide_eq_false c9
    clear c9
    simp only [Option.some.injEq, Prod.mk.injEq] at H
    obtain ⟨rfl, rfl⟩ := H
    have hnb20 := NB359_354.out
    have hnc20 := NB354_359.out
    obtain ⟨hcz21_0, hcz21_1, hfz21_0, hfz21_1⟩ := cz2 BK359
    obtain ⟨hcz22_0, hcz22_1, hfz22_0, hfz22_1⟩ := cz2 BK354
    obtain ⟨Ao23, co23, eo23⟩ := Kd.V_slice HO_360001.out
    subst eo23
    go_wp2
    refine bodyPost_ret (results_cell_row rfl _ _ gb354 40 #[.bool x360000_1, .slice Ao23 x360001_1.length co23] (0, 0) _ rfl (by (with_reducible repeat (first | refine blk_drewN ?_ _ | refine blk_drew ?_ | refine blk_alloc ?_ _)); refine blk_put (cs := #[.bool x360000_1, .slice none 0 0]) ?_ 1 _ rfl; (with_reducible repeat (first | refine blk_drewN ?_ _ | refine blk_drew ?_ | refine blk_alloc ?_ _)); refine blk_put (cs := #[.bool false, .slice none 0 0]) ?_ 0 _ rfl; exact zk BK354) Tryd.underlying40 rfl (by kernel_rfl)) rfl ?_
    exact ⟨_, by first | rfl | (simp [errW_none, errW_some] <;> rfl) | (simp [*, errW_none, errW_some] <;> rfl), by (with_reducible repeat (first | apply Kd.V_alloc | apply Kd.V_drewN | apply Kd.V_drew)); exact Kd.V_mono (Kd.V_far (p := ⟨gb354, 1, none⟩) (Kd.V_far (p := ⟨gb354, 0, none⟩) (Kd.V_mono HO_360001.out (fun k_ hk => (⟨hk, hk.2.1⟩ : _ ∧ k_ ≠ gb354))) (fun _ hk => hk.2) (.bool x360000_1)) (fun _ hk => hk.2) (.slice Ao23 x360001_1.length co23)) (fun _ hk => hk.1.1), (zb w)⟩

/-! ### interchangeref1_At: function 32 -/
def interchangeref1_At.f (k : Nat) (a0_0 : Int) (a0_1 : Int) (a1 : Int) : Option (Bool × List Int) := (interchangeref1_Of.f k a0_0).bind fun bt370 => ((interchangeref1_Power.f k (wrap64 (a1 - a0_1))).bind fun bt374 => ((interchangeref1_TimesOf.f k bt370.1 bt370.2 bt374.1 bt374.2).bind fun bt378 => (some (bt378.1, bt378.2))))
theorem interchangeref1_At.mono : ∀ a0 a1 a2 k, LeO (interchangeref1_At.f k a0 a1 a2) (interchangeref1_At.f (k + 1) a0 a1 a2) := by
 intro a0 a1 a2 k
 unfold interchangeref1_At.f
 repeat' first | with_reducible first | exact interchangeref1_Of.mono _ _ | exact interchangeref1_Power.mono _ _ | exact interchangeref1_TimesOf.mono _ _ _ _ _ | exact lr _ | exact ln _ | refine li ?_ ?_ | refine lb ?_ fun _ => ?_ | exact interchangeref1_Of.mono _ _ | exact interchangeref1_Power.mono _ _ | exact interchangeref1_TimesOf.mono _ _ _ _ _ | exact ln _ | refine li ?_ ?_ | refine lb ?_ fun _ => ?_
def interchangeref1_At.T1 : Bool × List (List Nat × List Nat) := (true, [([], []), ([0], [0]), ([1], [1]), ([], []), ([], []), ([4], [4]), ([3, 5], [3, 5]), ([6, 2], [6]), ([2, 7, 7], [2, 7]), ([8, 8, 0, 1, 2, 3, 4, 5, 6, 7, 8], [8])])
def interchangeref1_At.B1 : List Nat := [0, 1, 3, 0, 0, 16, 56, 127, 255, 511]
theorem interchangeref1_At.tab1 : rtab .any (opsOf Tryd.f32 1) = interchangeref1_At.T1 := by kernel_rfl
theorem interchangeref1_At.bits1 : waitsOk interchangeref1_At.T1.2 interchangeref1_At.B1 = true := by kernel_rfl
set_option maxHeartbeats 8000000 in
set_option maxRecDepth 100000 in
theorem interchangeref1_At.calls (k : Nat) (a0_0 : Int) (a0_1 : Int) (a1 : Int) (r1 : Bool) (r2 : List Int) (w : World) (h : interchangeref1_At.f k a0_0 a0_1 a1 = some (r1, r2)) :
  Calls Tryd.prog 32 #[.agg #[.int .i64 a0_0, .int .i64 a0_1], .int .i64 a1] w fun e w' => ∃ v1_ : Value, e = .returned (.agg #[.bool r1, v1_]) ∧ Kd.V (Kd.int .i64) 3 w' w.heap.size (fun k_ => (w.heap.size ≤ k_)) v1_ r2 ∧ Below w.heap.size w w' := by
 have hu32 := Tryd.underlying32
 have hu40 := Tryd.underlying40
 have HB := Aside0.mk (Below.refl w.heap.size w)
 have H := h
 unfold interchangeref1_At.f at H
 clear h
 replace H := Option.bind_eq_some_iff.mp H
 obtain ⟨⟨t370, t371⟩, A30, H⟩ := H
 try dsimp only at H
 have A3 := Aside0.mk A30
 clear A30
 replace H := Option.bind_eq_some_iff.mp H
 obtain ⟨⟨t374, t375⟩, A40, H⟩ := H
 try dsimp only at H
 have A4 := Aside0.mk A40
 clear A40
 replace H := Option.bind_eq_some_iff.mp H
 obtain ⟨⟨t378, t379⟩, A50, H⟩ := H
 try dsimp only at H
 have A5 := Aside0.mk A50
 clear A50
 simp only [Option.some.injEq, Prod.mk.injEq] at H
 obtain ⟨rfl, rfl⟩ := H
 go_enter Tryd.func32, Tryd.ntmps32
 try go_wp2_with (first | ((with_reducible refine gD 2 rfl ?_); refine bx w 2 #[.int .i64 a0_0, .int .i64 a0_1] 32 ?_; intro gb368 hg w6 hb BK368 GW368 GE368; clear HB; intro HB; clear hb hg) | ((with_reducible refine gD 4 rfl ?_); refine bx w 4 #[.bool false, .slice none 0 0] 40 ?_; intro gb369 hg w7 hb BK369 GW369 GE369; clear HB; intro HB; have NB368_369 := nbl BK368 hg; have NB369_368 := nbr BK368 hg; replace BK368 := bb BK368 hb; clear hb hg))
 have n0_ := Aside0.mk (blk_drew BK368.out)
 have n1_ := Aside0.mk (blk_drew BK369.out)
 have n2_ := Aside0.mk (below_drew1 HB.out)
 clear BK368
 clear BK369
 clear HB
 have BK368 := n0_
 have BK369 := n1_
 have HB := n2_
 clear n0_ n1_ n2_
 refine start_ (n := 10) (S := fun w' => w'.cell? ⟨gb368, 0, none⟩ = some (.int .i64 a0_0) ∧ w'.cell? ⟨gb368, 1, none⟩ = some (.int .i64 a0_1)) (ds := []) (bm 10 0) (by kernel_rfl) rfl rfl ⟨(blk_cell BK368.out 0).trans rfl, (blk_cell BK368.out 1).trans rfl⟩ (fun hHeld => ?_); refine with_tabW interchangeref1_At.tab1 interchangeref1_At.bits1 (fun HT_ HW_ => ?_)
 generalize w7.drew = w8 at BK368 BK369 HB hHeld ⊢
 refine pu 0 5 (bm 10 1) HT_ ?_
 refine pu 3 8 (bm 10 9) HT_ ?_
 refine pu 4 9 (bm 10 25) HT_ ?_
 refine ta2 1 6 (bm 10 27) HT_ HW_ hHeld ?_
 refine ta2 5 10 (bm 10 59) HT_ HW_ hHeld ?_
 refine pu 6 11 (bm 10 123) HT_ ?_
 refine one_ (i := 2) (N := some 7) (bm 10 127) rfl rfl (one_of HT_.out (by kernel_rfl)) (by decide) (fun K hK => ?_)
 refine gs Tryd.func48 #[.int .i64 a0_0] ?_
 with_reducible refine (interchangeref1_Of.calls k a0_0 t370 t371 _ A3.out).mono ?_
 rintro e w9 ⟨v372, rfl, ho0, hb⟩
 refine ⟨_, rfl, ?_⟩
 have n0_ := Aside0.mk (Kd.R_lower (Kd.R_newM (M := fun k_ => (w.heap.size ≤ k_)) ho0 (below_size (zb w)) (fun k_ h_ => h_)) (below_size (zb w)))
 have n1_ := bb BK368 hb
 have n2_ := bb BK369 hb
 have n3_ := hs w hb
 clear BK368
 clear BK369
 clear HB
 have HO373 := n0_
 have BK368 := n1_
 have BK369 := n2_
 have HB := n3_
 clear n0_ n1_ n2_ n3_
 (try clear hb)
 (try clear hb2)
 (try clear hk)
 (try clear hi)
 (try clear ho0)
 refine hK.out _ _ ⟨(blk_cell BK368.out 0).trans rfl, (blk_cell BK368.out 1).trans rfl⟩ (fun hHeld => ?_)
 clear hK K
 refine norm_ (a' := ?_) ?_ ?_
 rotate_left
 ·show Act.put _ (some 7) _ = _
  simp only [sq, i64_w, i32_w]
  rfl
 refine one_ (i := 7) (N := some 12) (bm 10 255) rfl rfl (one_of HT_.out (by kernel_rfl)) (by decide) (fun K hK => ?_)
 refine gs Tryd.func49 #[.int .i64 (wrap64 (a1 - a0_1))] ?_
 with_reducible refine (interchangeref1_Power.calls k (wrap64 (a1 - a0_1)) t374 t375 _ A4.out).mono ?_
 rintro e w10 ⟨v376, rfl, ho0, hb⟩
 refine ⟨_, rfl, ?_⟩
 have n0_ := rb HO373 hb
 have n1_ := Aside0.mk (Kd.V_lower (Kd.V_mono (ok' := fun k_ => (w.heap.size ≤ k_) ∧ some k_ ≠ (v372 : Value).ownBlock ∧ k_ ≠ gb368 ∧ k_ ≠ gb369) ho0 (fun k_ hk_ => ⟨(Nat.le_trans (below_size (zb w)) hk_), (Kd.fresh' (Kd.R_lt (zo HO373)) k_ hk_), (Kd.freshB (g := gb368) (o := .cells #[.int .i64 a0_0, .int .i64 a0_1] 32 (0, 0)) (zk BK368) k_ hk_), (Kd.freshB (g := gb369) (o := .cells #[.bool false, .slice none 0 0] 40 (0, 0)) (zk BK369) k_ hk_)⟩)) (below_size (zb w)))
 have n2_ := bb BK368 hb
 have n3_ := bb BK369 hb
 have n4_ := hs w hb
 clear HO373
 clear BK368
 clear BK369
 clear HB
 have HO373 := n0_
 have HO377 := n1_
 have BK368 := n2_
 have BK369 := n3_
 have HB := n4_
 clear n0_ n1_ n2_ n3_ n4_
 (try clear hb)
 (try clear hb2)
 (try clear hk)
 (try clear hi)
 (try clear ho0)
 obtain ⟨Ao11, co11, eo11⟩ := Kd.R_slice HO373.out
 (first | subst eo11 | (injection eo11 with f1_ f2_ f3_; have f4_ := f1_.symm; have f5_ := f3_.symm; clear f1_ f2_ f3_; subst f4_; subst f5_))
 obtain ⟨Ao12, co12, eo12⟩ := Kd.V_slice HO377.out
 (first | subst eo12 | (injection eo12 with f1_ f2_ f3_; have f4_ := f1_.symm; have f5_ := f3_.symm; clear f1_ f2_ f3_; subst f4_; subst f5_))
 refine hK.out _ _ ⟨(blk_cell BK368.out 0).trans rfl, (blk_cell BK368.out 1).trans rfl⟩ (fun hHeld => ?_)
 clear hK K
 refine norm_ (a' := ?_) ?_ ?_
 rotate_left
 ·show Act.put _ (some 12) _ = _
  simp only [sq, i64_w, i32_w]
  rfl
 refine one_ (i := 8) (N := some 13) (bm 10 511) rfl rfl (one_of HT_.out (by kernel_rfl)) (by decide) (fun K hK => ?_)
 refine gs Tryd.func47 #[.agg #[.bool t370, .slice Ao11 t371.length co11], .agg #[.bool t374, .slice Ao12 t375.length co12]] ?_
 with_reducible refine (interchangeref1_TimesOf.calls k t370 _ _ t371 t374 _ _ t375 t378 t379 _ ?side1 ?side2 ?side3 ?side4 A5.out).mono ?_
 (case side1 => repeat (first | exact (Kd.R_reads' HO373.out).2.2 | (with_reducible refine Kd.C_alloc ?_ _) | (with_reducible refine Kd.C_drewN ?_ _) | (with_reducible refine Kd.C_drew ?_)))
 (case side2 => exact (Kd.R_reads' HO373.out).2.1)
 (case side3 => repeat (first | exact (Kd.V_reads' HO377.out).2.2 | (with_reducible refine Kd.C_alloc ?_ _) | (with_reducible refine Kd.C_drewN ?_ _) | (with_reducible refine Kd.C_drew ?_)))
 (case side4 => exact (Kd.V_reads' HO377.out).2.1)
 rintro e w13 ⟨v380, rfl, ho0, hb⟩
 refine ⟨_, rfl, ?_⟩
 have n0_ := rb HO373 hb
 have n1_ := Aside0.mk (Kd.V_below (by (with_reducible repeat (first | apply Kd.V_alloc | apply Kd.V_drewN | apply Kd.V_drew)); exact HO377.out) hb)
 have n2_ := Aside0.mk (Kd.V_lower (Kd.V_mono (ok' := fun k_ => (w.heap.size ≤ k_) ∧ some k_ ≠ (.slice Ao11 t371.length co11 : Value).ownBlock ∧ k_ ≠ gb368 ∧ k_ ≠ gb369) ho0 (fun k_ hk_ => ⟨(Nat.le_trans (below_size (zb w)) hk_), (Kd.fresh' (Kd.R_lt (zo HO373)) k_ hk_), (Kd.freshB (g := gb368) (o := .cells #[.int .i64 a0_0, .int .i64 a0_1] 32 (0, 0)) (zk BK368) k_ hk_), (Kd.freshB (g := gb369) (o := .cells #[.bool false, .slice none 0 0] 40 (0, 0)) (zk BK369) k_ hk_)⟩)) (below_size (zb w)))
 have n3_ := bb BK368 hb
 have n4_ := bb BK369 hb
 have n5_ := hs w hb
 clear HO373
 clear HO377
 clear BK368
 clear BK369
 clear HB
 have HO373 := n0_
 have HO377 := n1_
 have HO381 := n2_
 have BK368 := n3_
 have BK369 := n4_
 have HB := n5_
 clear n0_ n1_ n2_ n3_ n4_ n5_
 (try clear hb)
 (try clear hb2)
 (try clear hk)
 (try clear hi)
 (try clear ho0)
 obtain ⟨Ao15, co15, eo15⟩ := Kd.V_slice HO381.out
 (first | subst eo15 | (injection eo15 with f1_ f2_ f3_; have f4_ := f1_.symm; have f5_ := f3_.symm; clear f1_ f2_ f3_; subst f4_; subst f5_))
 refine hK.out _ _ ⟨(blk_cell BK368.out 0).trans rfl, (blk_cell BK368.out 1).trans rfl⟩ (fun hHeld => ?_)
 clear hK K
 refine norm_ (a' := ?_) ?_ ?_
 rotate_left
 ·show Act.put _ (some 13) _ = _
  simp only [sq, i64_w, i32_w]
  rfl
 refine one_ (i := 9) (N := none) (bm 10 1023) rfl rfl (one_of HT_.out (by kernel_rfl)) (by decide) (fun K hK => ?_)
 have hs14 : w13.cell? ⟨gb369, 0, none⟩ = some (.bool false) := (blk_cell BK369.out 0).trans rfl
 have hfs14 := blk_frozen BK369.out 0
 have hns14_0 := NB368_369.out
 have hms14_0 := NB369_368.out
 have hs16 : w13.cell? ⟨gb369, 1, none⟩ = some (.slice none 0 0) := (blk_cell BK369.out 1).trans rfl
 have hfs16 := blk_frozen BK369.out 1
 have hns16_0 := NB368_369.out
 have hms16_0 := NB369_368.out
 refine skip_ (w1 := ?_) (by rfl) rfl ?_ ?_
 rotate_left
 ·go_simp
  rfl
 refine hK.out _ _ ⟨((cell_far (p := ⟨gb369, _, none⟩) NB368_369.out _).trans (((cell_far (p := ⟨gb369, _, none⟩) NB368_369.out _).trans (hHeld.1)))), ((cell_far (p := ⟨gb369, _, none⟩) NB368_369.out _).trans (((cell_far (p := ⟨gb369, _, none⟩) NB368_369.out _).trans (hHeld.2))))⟩ (fun hHeld => ?_)
 clear hK K
 refine done_ (done_of HT_.out (by kernel_rfl)) ?_
 try go_wp2
 refine bodyPost_ret (results_cell_row rfl _ _ gb369 40 #[.bool t378, .slice Ao15 t379.length co15] (0, 0) _ rfl (by (with_reducible repeat (first | refine blk_drewN ?_ _ | refine blk_drew ?_ | refine blk_alloc ?_ _)); refine blk_put (cs := #[.bool t378, .slice none 0 0]) ?_ 1 _ rfl; (with_reducible repeat (first | refine blk_drewN ?_ _ | refine blk_drew ?_ | refine blk_alloc ?_ _)); refine blk_put (cs := #[.bool false, .slice none 0 0]) ?_ 0 _ rfl; exact zk BK369) Tryd.underlying40 rfl (by kernel_rfl)) rfl ?_
 exact ⟨_, by first | rfl | (simp [errW_none, errW_some] <;> rfl) | (simp [*, errW_none, errW_some] <;> rfl), by (with_reducible repeat (first | apply Kd.V_alloc | apply Kd.V_drewN | apply Kd.V_drew)); exact Kd.V_mono (Kd.V_far (p := ⟨gb369, 1, none⟩) (Kd.V_far (p := ⟨gb369, 0, none⟩) (Kd.V_mono HO381.out (fun k_ hk => (⟨hk, hk.2.2.2⟩ : _ ∧ k_ ≠ gb369))) (fun _ hk => hk.2) (.bool t378)) (fun _ hk => hk.2) (.slice Ao15 t379.length co15)) (fun _ hk => hk.1.1), (zb w)⟩

/-! ### interchangeref1_Exact: function 15 -/
def interchangeref1_Exact.l0 : Nat → List (S32) → Int → Int → Bool → List Int → Option (Bool × List Int)
 | 0, _, _, _, _, _ => none
 | k + 1, x6, x7, x8, x384000, x384001 => if x8 < x7 then (if 0 ≤ x8 then (if x8 < (x6.length : Int) then ((interchangeref1_At.f k ((rd_T32 x6 x8).f0) ((rd_T32 x6 x8).f1) 9).bind fun bt386 => ((interchangeref1_Plus.f k x384000 x384001 bt386.1 bt386.2).bind fun bt390 => (interchangeref1_Exact.l0 k x6 x7 (wrap64 (x8 + 1)) bt390.1 bt390.2))) else (none)) else (none)) else (some (x384000, x384001))
def interchangeref1_Exact.f (k : Nat) (l0 : List (S32)) : Option (Bool × List Int) := interchangeref1_Exact.l0 k l0 (l0.length : Int) 0 false ([] : List Int)
theorem interchangeref1_Exact.mono_l : ∀ k, (∀ y0 y1 y2 y3 y4, LeO (interchangeref1_Exact.l0 k y0 y1 y2 y3 y4) (interchangeref1_Exact.l0 (k + 1) y0 y1 y2 y3 y4))
 | 0 => fun _ _ _ _ _ r h => by simp [interchangeref1_Exact.l0] at h
 | k + 1 => by
  have ih0 := interchangeref1_Exact.mono_l k
  ·intro y0 y1 y2 y3 y4
   unfold interchangeref1_Exact.l0
   repeat' first | with_reducible first | exact ih0 _ _ _ _ _ | exact interchangeref1_At.mono _ _ _ _ | exact interchangeref1_Plus.mono _ _ _ _ _ | exact lr _ | exact ln _ | refine li ?_ ?_ | refine lb ?_ fun _ => ?_ | exact ih0 _ _ _ _ _ | exact interchangeref1_At.mono _ _ _ _ | exact interchangeref1_Plus.mono _ _ _ _ _ | exact ln _ | refine li ?_ ?_ | refine lb ?_ fun _ => ?_
theorem interchangeref1_Exact.mono : ∀ a0 k, LeO (interchangeref1_Exact.f k a0) (interchangeref1_Exact.f (k + 1) a0) := by
 intro a0 k
 have ih0 := interchangeref1_Exact.mono_l k
 unfold interchangeref1_Exact.f
 repeat' first | with_reducible first | exact ih0 _ _ _ _ _ | exact interchangeref1_At.mono _ _ _ _ | exact interchangeref1_Plus.mono _ _ _ _ _ | exact lr _ | exact ln _ | refine li ?_ ?_ | refine lb ?_ fun _ => ?_ | exact ih0 _ _ _ _ _ | exact interchangeref1_At.mono _ _ _ _ | exact interchangeref1_Plus.mono _ _ _ _ _ | exact ln _ | refine li ?_ ?_ | refine lb ?_ fun _ => ?_
set_option maxHeartbeats 8000000 in
set_option maxRecDepth 100000 in
theorem interchangeref1_Exact.calls (k : Nat) (A0 : Option Addr) (c0 : Nat) (l0 : List (S32)) (r1 : Bool) (r2 : List Int) (w : World) (hr0 : Kd.C k32 w A0 l0.length l0) (hc0 : l0.length ≤ c0) (h : interchangeref1_Exact.f k l0 = some (r1, r2)) :
  Calls Tryd.prog 15 #[.slice A0 l0.length c0] w fun e w' => ∃ v1_ : Value, e = .returned (.agg #[.bool r1, v1_]) ∧ Kd.V (Kd.int .i64) 3 w' w.heap.size (fun k_ => (w.heap.size ≤ k_)) v1_ r2 ∧ Below w.heap.size w w' := by
 have hu40 := Tryd.underlying40
 have hu32 := Tryd.underlying32
 have HR0 := Aside0.mk hr0
 have HC0 := Aside0.mk hc0
 clear hr0 hc0
 have HB := Aside0.mk (Below.refl w.heap.size w)
 have H := h
 unfold interchangeref1_Exact.f at H
 clear h
 have H' := Aside0.mk H
 clear H
 go_enter Tryd.func15, Tryd.ntmps15
 go_wp2_with (first | ((with_reducible refine gD 2 rfl ?_); refine bx w 2 #[.bool false, .slice none 0 0] 40 ?_; intro gb382 hg w2 hb BK382 GW382 GE382; clear HB; intro HB; clear hb hg) | ((with_reducible refine gD 3 rfl ?_); refine bx w 3 #[.bool false, .slice none 0 0] 40 ?_; intro gb383 hg w3 hb BK383 GW383 GE383; clear HB; intro HB; have NB382_383 := nbl BK382 hg; have NB383_382 := nbr BK382 hg; replace BK382 := bb BK382 hb; clear hb hg))
 try simp only [sq]
 go_loopg [8] k (fun kq v8 w' => ∃ (x8_1 : Int) (x384000_1 : Bool) (x384001_1 : List Int) (u384001 : Value), v8 = .int .i64 x8_1 ∧ Aside0 (interchangeref1_Exact.l0 kq l0 (l0.length : Int) x8_1 x384000_1 x384001_1 = some (r1, r2)) ∧ Aside0 (kq ≤ k) ∧ Aside0 (Kd.V (Kd.int .i64) 3 w' w.heap.size (fun k_ => (w.heap.size ≤ k_) ∧ k_ ≠ gb382 ∧ k_ ≠ gb383) u384001 x384001_1) ∧ Aside0 (w'.heap[gb382]? = some (.cells #[.bool false, (.slice none 0 0)] 40 (0, 0))) ∧ Aside0 (w'.heap[gb383]? = some (.cells #[.bool x384000_1, u384001] 40 (0, 0))) ∧ Aside0 (Below w.heap.size w w'))
 case atStart => exact ⟨(0), (false), (([] : List Int)), (.slice none 0 0), ar, H', ⟨Nat.le_refl _⟩, ⟨Kd.V_nil _ _ _ _ _⟩, ⟨(zk BK382)⟩, ⟨(zk BK383)⟩, ⟨(zb w)⟩⟩
 case round =>
  clear H'
  try clear c1
  try clear p2
  obtain ⟨x8_1, x384000_1, x384001_1, u384001, rfl, HA, HK1, HO_384001, BK382, BK383, HB⟩ := hrel
  cases gk with
  | zero => exact absurd HA.out (by simp [interchangeref1_Exact.l0])
  | succ k1 =>
   have H := HA.out
   clear HA
   simp only [interchangeref1_Exact.l0] at H
   by_cases c4 : x8_1 < (l0.length : Int)
   ·rw [if_pos c4] at H
    have c4b0 : decide (x8_1 < (l0.length : Int)) = true := decide_eq_true c4
    clear c4
    by_cases c5 : 0 ≤ x8_1
    ·rw [if_pos c5] at H
     have c5b0 : decide (0 ≤ x8_1) = true := decide_eq_true c5
     clear c5
     by_cases c6 : x8_1 < (l0.length : Int)
     ·rw [if_pos c6] at H
      have c6b0 : decide (x8_1 < (l0.length : Int)) = true := decide_eq_true c6
      clear c6
      replace H := Option.bind_eq_some_iff.mp H
      obtain ⟨⟨t386, t387⟩, A70, H⟩ := H
      try dsimp only at H
      have A7 := Aside0.mk A70
      clear A70
      replace H := Option.bind_eq_some_iff.mp H
      obtain ⟨⟨t390, t391⟩, A80, H⟩ := H
      try dsimp only at H
      have A8 := Aside0.mk A80
      clear A80
      have H' := Aside0.mk H
      clear H
      have p384 : 0 ≤ (x8_1 : Int) := of_decide_eq_true (by assumption)
      have q384 : x8_1 < (l0.length : Int) := of_decide_eq_true (by assumption)
      obtain ⟨ad384, e384, hx384_0, hx384_1⟩ := at_T32 HR0.out x8_1 p384 q384
      cases e384
      replace hx384_0 := hz HB hx384_0
      replace hx384_1 := hz HB hx384_1
      replace p384 := eq_true p384
      replace q384 := eq_true q384
      try go_wp2_with (first | ((with_reducible refine gD 5 rfl ?_); refine box_event ?hg (N := 5) ?hd (cs := #[.int .i64 0, .int .i64 0]) (t := 32) ?hr ?_; (case hd => rfl); (case hg => rfl); (case hr => first | (go_simp; done) | (go_simp; rfl)); intro gb385 hg w9 hbox hb; replace HO_384001 := Aside0.mk (Kd.V_below (Kd.V_elderB (by (with_reducible repeat (first | apply Kd.V_alloc | apply Kd.V_drewN | apply Kd.V_drew)); exact HO_384001.out) gb385 (Nat.le_of_eq hg.symm)) hb); have BK385 := Aside0.mk (hbox); have GW385 := Aside0.mk ((by rw [hg]; exact (below_size (zb w)) : w.heap.size ≤ gb385)); have GE385 := Aside0.mk ((by rw [hg]; exact (below_size (zb w)) : w.heap.size ≤ gb385)); replace HB := hs w hb; have NB382_385 := nbl BK382 hg; have NB385_382 := nbr BK382 hg; replace BK382 := bb BK382 hb; have NB383_385 := nbl BK383 hg; have NB385_383 := nbr BK383 hg; replace BK383 := bb BK383 hb; clear hb hg; have hnb10 := NB385_382.out; have hnc10 := NB382_385.out; have hnb11 := NB385_383.out; have hnc11 := NB383_385.out; obtain ⟨hcz12_0, hcz12_1, hfz12_0, hfz12_1⟩ := cz2 BK385))
      have n0_ : Aside0 (Kd.V (Kd.int .i64) 3 ((w9.setCell ⟨gb385, 0, none⟩ (.int .i64 ((rd_T32 l0 x8_1).f0))).setCell ⟨gb385, 1, none⟩ (.int .i64 ((rd_T32 l0 x8_1).f1))) w.heap.size (fun k_ => (w.heap.size ≤ k_) ∧ k_ ≠ gb382 ∧ k_ ≠ gb383 ∧ k_ ≠ gb385) u384001 x384001_1) := ⟨by (with_reducible repeat (first | apply Kd.V_alloc | apply Kd.V_drewN | apply Kd.V_drew)); exact Kd.V_mono (Kd.V_far (p := ⟨gb385, 1, none⟩) (Kd.V_far (p := ⟨gb385, 0, none⟩) (Kd.V_mono HO_384001.out (fun k_ hk => (⟨hk, hk.2⟩ : _ ∧ k_ ≠ gb385))) (fun _ hk => hk.2) (.int .i64 ((rd_T32 l0 x8_1).f0))) (fun _ hk => hk.2) (.int .i64 ((rd_T32 l0 x8_1).f1))) (fun _ hk => ⟨hk.1.1.1, ⟨hk.1.1.2.1, ⟨hk.1.1.2.2, hk.1.2⟩⟩⟩)⟩
      have n1_ : Aside0 (((w9.setCell ⟨gb385, 0, none⟩ (.int .i64 ((rd_T32 l0 x8_1).f0))).setCell ⟨gb385, 1, none⟩ (.int .i64 ((rd_T32 l0 x8_1).f1))).heap[gb382]? = some (.cells #[.bool false, .slice none 0 0] 40 (0, 0))) := ⟨by (with_reducible repeat (first | refine blk_drewN ?_ _ | refine blk_drew ?_ | refine blk_alloc ?_ _)); refine blk_far ?_ NB382_385.out _; (with_reducible repeat (first | refine blk_drewN ?_ _ | refine blk_drew ?_ | refine blk_alloc ?_ _)); refine blk_far ?_ NB382_385.out _; exact zk BK382⟩
      have n2_ : Aside0 (((w9.setCell ⟨gb385, 0, none⟩ (.int .i64 ((rd_T32 l0 x8_1).f0))).setCell ⟨gb385, 1, none⟩ (.int .i64 ((rd_T32 l0 x8_1).f1))).heap[gb383]? = some (.cells #[.bool x384000_1, u384001] 40 (0, 0))) := ⟨by (with_reducible repeat (first | refine blk_drewN ?_ _ | refine blk_drew ?_ | refine blk_alloc ?_ _)); refine blk_far ?_ NB383_385.out _; (with_reducible repeat (first | refine blk_drewN ?_ _ | refine blk_drew ?_ | refine blk_alloc ?_ _)); refine blk_far ?_ NB383_385.out _; exact zk BK383⟩
      have n3_ : Aside0 (((w9.setCell ⟨gb385, 0, none⟩ (.int .i64 ((rd_T32 l0 x8_1).f0))).setCell ⟨gb385, 1, none⟩ (.int .i64 ((rd_T32 l0 x8_1).f1))).heap[gb385]? = some (.cells #[.int .i64 ((rd_T32 l0 x8_1).f0), .int .i64 ((rd_T32 l0 x8_1).f1)] 32 (0, 0))) := ⟨by (with_reducible repeat (first | refine blk_drewN ?_ _ | refine blk_drew ?_ | refine blk_alloc ?_ _)); refine blk_put (cs := #[.int .i64 ((rd_T32 l0 x8_1).f0), .int .i64 0]) ?_ 1 _ rfl; (with_reducible repeat (first | refine blk_drewN ?_ _ | refine blk_drew ?_ | refine blk_alloc ?_ _)); refine blk_put (cs := #[.int .i64 0, .int .i64 0]) ?_ 0 _ rfl; exact zk BK385⟩
      have n4_ : Aside0 (Below w.heap.size w ((w9.setCell ⟨gb385, 0, none⟩ (.int .i64 ((rd_T32 l0 x8_1).f0))).setCell ⟨gb385, 1, none⟩ (.int .i64 ((rd_T32 l0 x8_1).f1)))) := ⟨(zb w)⟩
      (try clear HO_384001)
      (try clear BK382)
      (try clear BK383)
      (try clear BK385)
      (try clear HB)
      generalize ((w9.setCell ⟨gb385, 0, none⟩ (.int .i64 ((rd_T32 l0 x8_1).f0))).setCell ⟨gb385, 1, none⟩ (.int .i64 ((rd_T32 l0 x8_1).f1))) = w13 at n0_ n1_ n2_ n3_ n4_ ⊢
      have HO_384001 := n0_
      have BK382 := n1_
      have BK383 := n2_
      have BK385 := n3_
      have HB := n4_
      clear n0_ n1_ n2_ n3_ n4_
      have n0_ := Aside0.mk (Kd.V_drew HO_384001.out)
      have n1_ := Aside0.mk (blk_drew BK382.out)
      have n2_ := Aside0.mk (blk_drew BK383.out)
      have n3_ := Aside0.mk (blk_drew BK385.out)
      have n4_ := Aside0.mk (below_drew1 HB.out)
      clear HO_384001
      clear BK382
      clear BK383
      clear BK385
      clear HB
      have HO_384001 := n0_
      have BK382 := n1_
      have BK383 := n2_
      have BK385 := n3_
      have HB := n4_
      clear n0_ n1_ n2_ n3_ n4_
      refine start_ (n := 5) (S := fun w' => w'.cell? ⟨gb383, 0, none⟩ = some (.bool x384000_1) ∧ w'.cell? ⟨gb383, 1, none⟩ = some (u384001) ∧ w'.cell? ⟨gb385, 0, none⟩ = some (.int .i64 ((rd_T32 l0 x8_1).f0)) ∧ w'.cell? ⟨gb385, 1, none⟩ = some (.int .i64 ((rd_T32 l0 x8_1).f1))) (ds := [4]) (bm 5 0) (by kernel_rfl) rfl rfl ⟨(blk_cell BK383.out 0).trans rfl, (blk_cell BK383.out 1).trans rfl, (blk_cell BK385.out 0).trans rfl, (blk_cell BK385.out 1).trans rfl⟩ (fun hHeld => ?_)
      generalize w13.drew = w14 at HO_384001 BK382 BK383 BK385 HB hHeld ⊢
      refine take_ (i := 0) (N := some 12) (v := ?_) (a' := ?_) (bm 5 1) rfl rfl (by kernel_rfl) (fun _ _ _ h => h) (Or.inl ⟨by rfl, ?_⟩) hHeld ?_ ?_
      rotate_left
      ·rintro w' ⟨s0, s1, s2, s3⟩
       go_simp
       with_reducible rfl
      rotate_left
      ·simp only [sq, i64_w, i32_w]
       rfl
      refine take_ (i := 1) (N := some 13) (v := ?_) (a' := ?_) (bm 5 3) rfl rfl (by kernel_rfl) (fun _ _ _ h => h) (Or.inl ⟨by rfl, ?_⟩) hHeld ?_ ?_
      rotate_left
      ·rintro w' ⟨s0, s1, s2, s3⟩
       go_simp
       with_reducible rfl
      rotate_left
      ·simp only [sq, i64_w, i32_w]
       rfl
      refine one_ (i := 2) (N := some 14) (bm 5 7) rfl rfl (by kernel_rfl) (by decide) (fun K hK => ?_)
      refine gs Tryd.func32 #[.agg #[.int .i64 ((rd_T32 l0 x8_1).f0), .int .i64 ((rd_T32 l0 x8_1).f1)], .int .i64 9] ?_
      with_reducible refine (interchangeref1_At.calls k1 ((rd_T32 l0 x8_1).f0) ((rd_T32 l0 x8_1).f1) 9 t386 t387 _ A7.out).mono ?_
      rintro e w15 ⟨v388, rfl, ho0, hb⟩
      refine ⟨_, rfl, ?_⟩
      have n0_ := Aside0.mk (Kd.V_below (by (with_reducible repeat (first | apply Kd.V_alloc | apply Kd.V_drewN | apply Kd.V_drew)); exact HO_384001.out) hb)
      have n1_ := Aside0.mk (Kd.V_lower (Kd.V_mono (ok' := fun k_ => (w.heap.size ≤ k_) ∧ k_ ≠ gb382 ∧ k_ ≠ gb383 ∧ k_ ≠ gb385) ho0 (fun k_ hk_ => ⟨(Nat.le_trans (below_size (zb w)) hk_), (Kd.freshB (g := gb382) (o := .cells #[.bool false, .slice none 0 0] 40 (0, 0)) (zk BK382) k_ hk_), (Kd.freshB (g := gb383) (o := .cells #[.bool x384000_1, u384001] 40 (0, 0)) (zk BK383) k_ hk_), (Kd.freshB (g := gb385) (o := .cells #[.int .i64 ((rd_T32 l0 x8_1).f0), .int .i64 ((rd_T32 l0 x8_1).f1)] 32 (0, 0)) (zk BK385) k_ hk_)⟩)) (below_size (zb w)))
      have n2_ := bb BK382 hb
      have n3_ := bb BK383 hb
      have n4_ := bb BK385 hb
      have n5_ := hs w hb
      clear HO_384001
      clear BK382
      clear BK383
      clear BK385
      clear HB
      have HO_384001 := n0_
      have HO389 := n1_
      have BK382 := n2_
      have BK383 := n3_
      have BK385 := n4_
      have HB := n5_
      clear n0_ n1_ n2_ n3_ n4_ n5_
      (try clear hb)
      (try clear hb2)
      (try clear hk)
      (try clear hi)
      (try clear ho0)
      obtain ⟨Ao16, co16, eo16⟩ := Kd.V_slice HO_384001.out
      (first | subst eo16 | (injection eo16 with f1_ f2_ f3_; have f4_ := f1_.symm; have f5_ := f3_.symm; clear f1_ f2_ f3_; subst f4_; subst f5_))
      obtain ⟨Ao17, co17, eo17⟩ := Kd.V_slice HO389.out
      (first | subst eo17 | (injection eo17 with f1_ f2_ f3_; have f4_ := f1_.symm; have f5_ := f3_.symm; clear f1_ f2_ f3_; subst f4_; subst f5_))
      refine hK.out _ _ ⟨(blk_cell BK383.out 0).trans rfl, (blk_cell BK383.out 1).trans rfl, (blk_cell BK385.out 0).trans rfl, (blk_cell BK385.out 1).trans rfl⟩ (fun hHeld => ?_)
      clear hK K
      refine norm_ (a' := ?_) ?_ ?_
      rotate_left
      ·show Act.put _ (some 14) _ = _
       simp only [sq, i64_w, i32_w]
       rfl
      refine one_ (i := 3) (N := some 15) (bm 5 15) rfl rfl (by kernel_rfl) (by decide) (fun K hK => ?_)
      refine gs Tryd.func17 #[.agg #[.bool x384000_1, .slice Ao16 x384001_1.length co16], .agg #[.bool t386, .slice Ao17 t387.length co17]] ?_
      with_reducible refine (interchangeref1_Plus.calls k1 x384000_1 _ _ x384001_1 t386 _ _ t387 t390 t391 _ ?side1 ?side2 ?side3 ?side4 A8.out).mono ?_
      (case side1 => repeat (first | exact (Kd.V_reads' HO_384001.out).2.2 | (with_reducible refine Kd.C_alloc ?_ _) | (with_reducible refine Kd.C_drewN ?_ _) | (with_reducible refine Kd.C_drew ?_)))
      (case side2 => exact (Kd.V_reads' HO_384001.out).2.1)
      (case side3 => repeat (first | exact (Kd.V_reads' HO389.out).2.2 | (with_reducible refine Kd.C_alloc ?_ _) | (with_reducible refine Kd.C_drewN ?_ _) | (with_reducible refine Kd.C_drew ?_)))
      (case side4 => exact (Kd.V_reads' HO389.out).2.1)
      rintro e w18 ⟨v392, rfl, ho0, hb⟩
      refine ⟨_, rfl, ?_⟩
      have n0_ := Aside0.mk (Kd.V_below (by (with_reducible repeat (first | apply Kd.V_alloc | apply Kd.V_drewN | apply Kd.V_drew)); exact HO_384001.out) hb)
      have n1_ := Aside0.mk (Kd.V_below (by (with_reducible repeat (first | apply Kd.V_alloc | apply Kd.V_drewN | apply Kd.V_drew)); exact HO389.out) hb)
      have n2_ := Aside0.mk (Kd.V_lower (Kd.V_mono (ok' := fun k_ => (w.heap.size ≤ k_) ∧ k_ ≠ gb382 ∧ k_ ≠ gb383 ∧ k_ ≠ gb385) ho0 (fun k_ hk_ => ⟨(Nat.le_trans (below_size (zb w)) hk_), (Kd.freshB (g := gb382) (o := .cells #[.bool false, .slice none 0 0] 40 (0, 0)) (zk BK382) k_ hk_), (Kd.freshB (g := gb383) (o := .cells #[.bool x384000_1, .slice Ao16 x384001_1.length co16] 40 (0, 0)) (zk BK383) k_ hk_), (Kd.freshB (g := gb385) (o := .cells #[.int .i64 ((rd_T32 l0 x8_1).f0), .int .i64 ((rd_T32 l0 x8_1).f1)] 32 (0, 0)) (zk BK385) k_ hk_)⟩)) (below_size (zb w)))
      have n3_ := bb BK382 hb
      have n4_ := bb BK383 hb
      have n5_ := bb BK385 hb
      have n6_ := hs w hb
      clear HO_384001
      clear HO389
      clear BK382
      clear BK383
      clear BK385
      clear HB
      have HO_384001 := n0_
      have HO389 := n1_
      have HO393 := n2_
      have BK382 := n3_
      have BK383 := n4_
      have BK385 := n5_
      have HB := n6_
      clear n0_ n1_ n2_ n3_ n4_ n5_ n6_
      (try clear hb)
      (try clear hb2)
      (try clear hk)
      (try clear hi)
      (try clear ho0)
      obtain ⟨Ao20, co20, eo20⟩ := Kd.V_slice HO393.out
      (first | subst eo20 | (injection eo20 with f1_ f2_ f3_; have f4_ := f1_.symm; have f5_ := f3_.symm; clear f1_ f2_ f3_; subst f4_; subst f5_))
      refine hK.out _ _ ⟨(blk_cell BK383.out 0).trans rfl, (blk_cell BK383.out 1).trans rfl, (blk_cell BK385.out 0).trans rfl, (blk_cell BK385.out 1).trans rfl⟩ (fun hHeld => ?_)
      clear hK K
      refine norm_ (a' := ?_) ?_ ?_
      rotate_left
      ·show Act.put _ (some 15) _ = _
       simp only [sq, i64_w, i32_w]
       rfl
      refine last_ (i := 4) (N := none) (bm 5 31) rfl rfl (by kernel_rfl) (by decide) (fun K hK => ?_)
      have hs19 : w18.cell? ⟨gb383, 0, none⟩ = some (.bool x384000_1) := (blk_cell BK383.out 0).trans rfl
      have hfs19 := blk_frozen BK383.out 0
      have hns19_0 := NB382_383.out
      have hns19_2 := NB385_383.out
      have hms19_0 := NB383_382.out
      have hms19_2 := NB383_385.out
      have hs21 : w18.cell? ⟨gb383, 1, none⟩ = some (.slice Ao16 x384001_1.length co16) := (blk_cell BK383.out 1).trans rfl
      have hfs21 := blk_frozen BK383.out 1
      have hns21_0 := NB382_383.out
      have hns21_2 := NB385_383.out
      have hms21_0 := NB383_382.out
      have hms21_2 := NB383_385.out
      refine skip_ (w1 := ?_) (by rfl) rfl ?_ ?_
      rotate_left
      ·go_simp
       rfl
      refine hK.out _ _ ?_
      clear hK K
      refine done_ (by kernel_rfl) ?_
      try go_wp2
      go_roundg k1
      case measure => have := HK1.out; omega
      case rel => exact ⟨(wrap64 (x8_1 + 1)), (t390), (t391), (.slice Ao20 t391.length co20), ar, H', ⟨by have := HK1.out; omega⟩, ⟨by (with_reducible repeat (first | apply Kd.V_alloc | apply Kd.V_drewN | apply Kd.V_drew)); exact Kd.V_mono (Kd.V_far (p := ⟨gb383, 1, none⟩) (Kd.V_far (p := ⟨gb383, 0, none⟩) (Kd.V_mono HO393.out (fun k_ hk => (⟨hk, hk.2.2.1⟩ : _ ∧ k_ ≠ gb383))) (fun _ hk => hk.2) (.bool t390)) (fun _ hk => hk.2) (.slice Ao20 t391.length co20)) (fun _ hk => ⟨hk.1.1, ⟨hk.1.2.1, hk.1.2.2.1⟩⟩)⟩, ⟨by (with_reducible repeat (first | refine blk_drewN ?_ _ | refine blk_drew ?_ | refine blk_alloc ?_ _)); refine blk_far ?_ NB382_383.out _; (with_reducible repeat (first | refine blk_drewN ?_ _ | refine blk_drew ?_ | refine blk_alloc ?_ _)); refine blk_far ?_ NB382_383.out _; exact zk BK382⟩, ⟨by (with_reducible repeat (first | refine blk_drewN ?_ _ | refine blk_drew ?_ | refine blk_alloc ?_ _)); refine blk_put (cs := #[.bool t390, .slice Ao16 x384001_1.length co16]) ?_ 1 _ rfl; (with_reducible repeat (first | refine blk_drewN ?_ _ | refine blk_drew ?_ | refine blk_alloc ?_ _)); refine blk_put (cs := #[.bool x384000_1, .slice Ao16 x384001_1.length co16]) ?_ 0 _ rfl; exact zk BK383⟩, ⟨(zb w)⟩⟩
     ·rw [if_neg c6] at H
      exact absurd H (by simp)
    ·rw [if_neg c5] at H
     exact absurd H (by simp)
   ·rw [if_neg c4] at H
    have c4b0 : decide (x8_1 < (l0.length : Int)) = false := decide_eq_false c4
    clear c4
    simp only [Option.some.injEq, Prod.mk.injEq] at H
    obtain ⟨rfl, rfl⟩ := H
    have hnb22 := NB383_382.out
    have hnc22 := NB382_383.out
    obtain ⟨hcz23_0, hcz23_1, hfz23_0, hfz23_1⟩ := cz2 BK383
    obtain ⟨hcz24_0, hcz24_1, hfz24_0, hfz24_1⟩ := cz2 BK382
    obtain ⟨Ao25, co25, eo25⟩ := Kd.V_slice HO_384001.out
    subst eo25
    go_wp2
    refine bodyPost_ret (results_cell_row rfl _ _ gb382 40 #[.bool x384000_1, .slice Ao25 x384001_1.length co25] (0, 0) _ rfl (by (with_reducible repeat (first | refine blk_drewN ?_ _ | refine blk_drew ?_ | refine blk_alloc ?_ _)); refine blk_put (cs := #[.bool x384000_1, .slice none 0 0]) ?_ 1 _ rfl; (with_reducible repeat (first | refine blk_drewN ?_ _ | refine blk_drew ?_ | refine blk_alloc ?_ _)); refine blk_put (cs := #[.bool false, .slice none 0 0]) ?_ 0 _ rfl; exact zk BK382) Tryd.underlying40 rfl (by kernel_rfl)) rfl ?_
    exact ⟨_, by first | rfl | (simp [errW_none, errW_some] <;> rfl) | (simp [*, errW_none, errW_some] <;> rfl), by (with_reducible repeat (first | apply Kd.V_alloc | apply Kd.V_drewN | apply Kd.V_drew)); exact Kd.V_mono (Kd.V_far (p := ⟨gb382, 1, none⟩) (Kd.V_far (p := ⟨gb382, 0, none⟩) (Kd.V_mono HO_384001.out (fun k_ hk => (⟨hk, hk.2.1⟩ : _ ∧ k_ ≠ gb382))) (fun _ hk => hk.2) (.bool x384000_1)) (fun _ hk => hk.2) (.slice Ao25 x384001_1.length co25)) (fun _ hk => hk.1.1), (zb w)⟩

end Go.Proofs.YtaihfoihlbileaaDoor.R4
