import Derived.Sort.LotA
import Derived.Shelf.SlSortCmp.Insertion
import Derived.Test.YtaihfoihlbileaaGreatDoorProg
import Derived.Sort.WalkC
import Derived.Sort.WalkA
import Derived.Deep.LoopGhost
import Derived.Deep.QuietTactic
import Derived.BigQuiet
import Derived.BigRegion
import Derived.WalkKit
import Derived.Laws.BitsLemmas
import Derived.Shelf.SlicesE.Kit
import Derived.KernelRfl
import Derived.Test.YtaihfoihlbileaaGreatDoorF6e
set_option maxHeartbeats 8000000
set_option maxRecDepth 1000000
set_option linter.unusedVariables false
set_option linter.unusedSimpArgs false
namespace Go.Proofs.YtaihfoihlbileaaGreatDoor.R6
open Go.RowKit Go.Proofs.YtaihfoihlbileaaGreatDoorW.PrintWords Go.Proofs.YtaihfoihlbileaaGreatDoorW.PrintLast Go.Proofs.YtaihfoihlbileaaGreatDoorW.PrintMore
attribute [local go_sem] vB vv yV yK xL xH vw vz   
def qZ.l0 : Nat → Int → Bool → List Int → Option (Bool × List Int)
 | 0, _, _, _ => none
 | k + 1, x0, x386000, x386001 => if x0 = 0 then (some (x386000, x386001)) else (if x386001.length < 17592186044416 then (qZ.l0 k (wrap64 (Int.tdiv x0 1000000)) x386000 (x386001 ++ [mx (Int.tmod x0 1000000) (wrap64 (-(Int.tmod x0 1000000)))])) else (none))
def qZ.f (k : Nat) (a0 : Int) : Option (Bool × List Int) := qZ.l0 k a0 (decide (a0 < 0)) ([] : List Int)
theorem qZ.jD : ∀ k, (∀ y0 y1 y2, LeO (qZ.l0 k y0 y1 y2) (qZ.l0 (k + 1) y0 y1 y2))
 | 0 => fun _ _ _ r h => by simp [qZ.l0] at h
 | k + 1 => by
  have ih0 := qZ.jD k
  ·intro y0 y1 y2
   unfold qZ.l0
   repeat' first | with_reducible first | exact ih0 _ _ _ | exact lr _ | exact ln _ | refine li ?_ ?_ | refine lb ?_ fun _ => ?_ | exact ih0 _ _ _ | exact ln _ | refine li ?_ ?_ | refine lb ?_ fun _ => ?_
theorem qZ.mono : ∀ a0 k, LeO (qZ.f k a0) (qZ.f (k + 1) a0) := by
 intro a0 k
 have ih0 := qZ.jD k
 unfold qZ.f
 repeat' first | with_reducible first | exact ih0 _ _ _ | exact lr _ | exact ln _ | refine li ?_ ?_ | refine lb ?_ fun _ => ?_ | exact ih0 _ _ _ | exact ln _ | refine li ?_ ?_ | refine lb ?_ fun _ => ?_
theorem qZ.calls (k : Nat) (a0 : Int) (r1 : Bool) (r2 : List Int) (w : World) (h : qZ.f k a0 = some (r1, r2)) :
  Calls Tryz.prog 104 #[.int .i64 a0] w fun e w' => ∃ v1_ : Value, e = .returned (.agg #[.bool r1, v1_]) ∧ Kd.R (Kd.int .i64) 3 w' w.heap.size (fun _ => True) v1_ r2 ∧ Below w.heap.size w w' := by
 have hu121 := Tryz.underlying121
 have HB := zQ.mk (Below.refl w.heap.size w)
 have H := h
 unfold qZ.f at H
 clear h
 have H' := zQ.mk H
 clear H
 go_enter Tryz.func104, Tryz.ntmps104
 go_wp2_with (first | ((with_reducible refine gD 2 rfl ?_); refine bx w 2 #[.bool false, .slice none 0 0] 121 ?_; intro gb384 hg w2 hb BK384 GW384 GE384; clear HB; intro HB; clear hb hg) | ((with_reducible refine gD 3 rfl ?_); refine bx w 3 #[.bool false, .slice none 0 0] 121 ?_; intro gb385 hg w3 hb BK385 GW385 GE385; clear HB; intro HB; have NB384_385 := nbl BK384 hg; have NB385_384 := nbr BK384 hg; replace BK384 := bb BK384 hb; clear hb hg; have hnb4 := NB385_384.out; have hnc4 := NB384_385.out; obtain ⟨hcz5_0, hcz5_1, hfz5_0, hfz5_1⟩ := cz2 BK385))
 try simp only [sq]
 go_loopg [0] k (fun kq v0 w' => ∃ (x0_1 : Int) (x386001_1 : List Int) (u386001 : Value), v0 = .int .i64 x0_1 ∧ zQ (qZ.l0 kq x0_1 (decide (a0 < 0)) x386001_1 = some (r1, r2)) ∧ zQ (kq ≤ k) ∧ zQ (Kd.R (Kd.int .i64) 3 w' w.heap.size (fun _ => True) u386001 x386001_1) ∧ zQ (w'.heap[gb384]? = some (.cells #[.bool false, (.slice none 0 0)] 121 (0, 0))) ∧ zQ (w'.heap[gb385]? = some (.cells #[.bool (decide (a0 < 0)), u386001] 121 (0, 0))) ∧ zQ (Below w.heap.size w w'))
 case atStart => exact ⟨(a0), (([] : List Int)), (.slice none 0 0), ar, H', ⟨Nat.le_refl _⟩, ⟨by first | exact Kd.R_nil _ _ _ _ _ | exact Kd.N_nil _ _ _ _ _ | exact Kd.V_nil _ _ _ _ _ | exact Kd.Q_nil _ _ _ _ _ | exact Kd.S_nil _ _ _ _ _⟩, ⟨by (with_reducible repeat (first | refine zV ?_ _ | refine zW ?_ | refine zJ ?_ _)); refine zP ?_ NB384_385.out _; (with_reducible repeat (first | refine zV ?_ _ | refine zW ?_ | refine zJ ?_ _)); refine zP ?_ NB384_385.out _; exact zk BK384⟩, ⟨by (with_reducible repeat (first | refine zV ?_ _ | refine zW ?_ | refine zJ ?_ _)); refine zU (cs := #[.bool (decide (a0 < 0)), .slice none 0 0]) ?_ 1 _ rfl; (with_reducible repeat (first | refine zV ?_ _ | refine zW ?_ | refine zJ ?_ _)); refine zU (cs := #[.bool false, .slice none 0 0]) ?_ 0 _ rfl; exact zk BK385⟩, ⟨(zb w)⟩⟩
 case round =>
  clear H'
  try clear c1
  try clear p2
  try clear c4
  try clear hcz5_0 hcz5_1 hfz5_0 hfz5_1
  obtain ⟨x0_1, x386001_1, u386001, rfl, HA, HK1, HO_386001, BK384, BK385, HB⟩ := hrel
  cases gk with
  | zero => exact absurd HA.out (by simp [qZ.l0])
  | succ k1 =>
   have H := HA.out
   clear HA
   simp only [qZ.l0] at H
   by_cases c6 : x0_1 = 0
   ·rw [if_pos c6] at H
    have c6b0 : (x0_1 == 0) = true := beq_iff_eq.mpr c6
    have c6b1 : (x0_1 != 0) = false := bne_eq_false_iff_eq.mpr c6
    clear c6
    simp only [Option.some.injEq, Prod.mk.injEq] at H
    obtain ⟨rfl, rfl⟩ := H
    have hnb7 := NB385_384.out
    have hnc7 := NB384_385.out
    obtain ⟨hcz8_0, hcz8_1, hfz8_0, hfz8_1⟩ := cz2 BK385
    obtain ⟨hcz9_0, hcz9_1, hfz9_0, hfz9_1⟩ := cz2 BK384
    obtain ⟨Ao10, co10, eo10⟩ := Kd.xw HO_386001.out
    subst eo10
    go_wp2
    refine bodyPost_ret (results_cell_row rfl _ _ gb384 121 #[.bool (decide (a0 < 0)), .slice Ao10 x386001_1.length co10] (0, 0) _ rfl (by (with_reducible repeat (first | refine zV ?_ _ | refine zW ?_ | refine zJ ?_ _)); refine zU (cs := #[.bool (decide (a0 < 0)), .slice none 0 0]) ?_ 1 _ rfl; (with_reducible repeat (first | refine zV ?_ _ | refine zW ?_ | refine zJ ?_ _)); refine zU (cs := #[.bool false, .slice none 0 0]) ?_ 0 _ rfl; exact zk BK384) Tryz.underlying121 rfl (by kernel_rfl)) rfl ?_
    exact ⟨_, by first | rfl | (simp [zw, zq] <;> rfl) | (simp [*, zw, zq] <;> rfl), by (with_reducible repeat (first | apply Kd.xS | apply Kd.xR | apply Kd.xy)); exact Kd.vF (Kd.R_far (p := ⟨gb384, 1, none⟩) (Kd.R_far (p := ⟨gb384, 0, none⟩) (Kd.zG HO_386001.out BK384.out (by decide)) (fun _ hk => hk.2) (.bool (decide (a0 < 0)))) (fun _ hk => hk.2) (.slice Ao10 x386001_1.length co10)) (fun _ hk => trivial), (zb w)⟩
   ·rw [if_neg c6] at H
    have c6b0 : (x0_1 == 0) = false := beq_eq_false_iff_ne.mpr c6
    have c6b1 : (x0_1 != 0) = true := bne_iff_ne.mpr c6
    obtain ⟨ji11, hji11⟩ : ∃ j_ : Int, (mx (Int.tmod x0_1 1000000) (wrap64 (-(Int.tmod x0_1 1000000)))) = j_ := ⟨_, rfl⟩
    replace H : (if x386001_1.length < 17592186044416 then (qZ.l0 k1 (wrap64 (Int.tdiv x0_1 1000000)) (decide (a0 < 0)) (x386001_1 ++ [ji11])) else (none)) = some (r1, r2) := by first | (rw [hji11] at H; exact H) | (simp only [hji11] at H ⊢; exact H)
    have hji11_ : (if (Int.tmod x0_1 1000000) < (wrap64 (-(Int.tmod x0_1 1000000))) then (wrap64 (-(Int.tmod x0_1 1000000))) else (Int.tmod x0_1 1000000)) = ji11 := hji11
    by_cases c12 : x386001_1.length < 17592186044416
    ·rw [if_pos c12] at H
     have LMc12 := zQ.mk c12
     clear c12
     obtain ⟨y386, hy386⟩ : ∃ y_ : List Int, y_ = (x386001_1 ++ [ji11]) := ⟨_, rfl⟩
     replace H : (qZ.l0 k1 (wrap64 (Int.tdiv x0_1 1000000)) (decide (a0 < 0)) y386) = some (r1, r2) := by first | (rw [hy386]; with_reducible exact H) | (have H2_ := (Option.bind_some _ _).symm.trans H; rw [hy386]; with_reducible exact H2_) | (have H2_ := (Option.bind_some _ _).symm.trans H; with_reducible exact H2_) | with_reducible exact H | (rw [hy386]; exact H) | exact H
     have Ny386 := zQ.mk hy386
     clear hy386
     have H' := zQ.mk H
     clear H
     have hnb13 := NB385_384.out
     have hnc13 := NB384_385.out
     obtain ⟨hcz14_0, hcz14_1, hfz14_0, hfz14_1⟩ := cz2 BK385
     go_wp2_with (first | ((with_reducible refine jR (b := .append) (xs := #[.tmp 13, .tmp 18]) rfl ?_); at_builtin; refine Kd.vK (Kd.int .i64) (w0 := w) w.heap.size rfl (.tmp 13) (.tmp 18) 39 3 (.int .i64 0) 8 rfl Tryz.underlying39 info3 rfl (by decide) (by omega) u386001 x386001_1 ji11 [.int .i64 ji11] (fun _ => True) (fun _ => False) rfl rfl ?aP (fun _ hk => hk.elim) ?aF ?aO ?aB ?aS ?aL ?_; (case aP => exact rfl); (case aB => exact (zb w)); (case aF => exact (fun _ _ => trivial)); (case aO => exact (zo HO_386001)); (case aS => exact (zB (zb w))); (case aL => have := LMc12.out; omega); intro v387 w15 ho hb hg hat; rw [← Ny386.out] at ho; replace BK384 := zQ.mk (jX (g := gb384) (o := .cells #[.bool false, .slice none 0 0] 121 (0, 0)) (zk BK384) hg (Kd.R_ne HO_386001.out BK384.out (by decide))); replace BK385 := zQ.mk (jX (g := gb385) (o := .cells #[.bool (decide (a0 < 0)), u386001] 121 (0, 0)) (zk BK385) hg (Kd.R_ne HO_386001.out BK385.out (by decide))); replace HB := zQ.mk (hb); have HO388 := zQ.mk (ho); clear HO_386001; clear ho hb hg hat; obtain ⟨Ao16, co16, eo16⟩ := Kd.xw HO388.out; subst eo16; obtain ⟨hcz17_0, hcz17_1, hfz17_0, hfz17_1⟩ := cz2 BK385))
     go_roundg k1
     case measure => have := HK1.out; omega
     case rel => exact ⟨(wrap64 (Int.tdiv x0_1 1000000)), (y386), (.slice Ao16 y386.length co16), ar, H', ⟨by have := HK1.out; omega⟩, ⟨by (with_reducible repeat (first | apply Kd.xS | apply Kd.xR | apply Kd.xy)); exact Kd.vF (Kd.R_far (p := ⟨gb385, 1, none⟩) (Kd.zG HO388.out BK385.out (by decide)) (fun _ hk => hk.2) (.slice Ao16 y386.length co16)) (fun _ hk => trivial)⟩, ⟨by (with_reducible repeat (first | refine zV ?_ _ | refine zW ?_ | refine zJ ?_ _)); refine zP ?_ NB384_385.out _; exact zk BK384⟩, ⟨by (with_reducible repeat (first | refine zV ?_ _ | refine zW ?_ | refine zJ ?_ _)); refine zU (cs := #[.bool (decide (a0 < 0)), u386001]) ?_ 1 _ rfl; exact zk BK385⟩, ⟨(zb w)⟩⟩
    ·rw [if_neg c12] at H
     exact absurd H (by simp)
def qW.l0 : Nat → Int → Int → Bool → List Int → Option (Bool × List Int)
 | 0, _, _, _, _ => none
 | k + 1, x5, x6, x395000, x395001 => if x6 < x5 then ((qZ.f k 10).bind fun bt395 => ((zZ.f k x395000 x395001 bt395.1 bt395.2).bind fun bt399 => (qW.l0 k x5 (wrap64 (x6 + 1)) bt399.1 bt399.2))) else (some (x395000, x395001))
def qW.f (k : Nat) (a0 : Int) : Option (Bool × List Int) := (qZ.f k 1).bind fun bt390 => (qW.l0 k a0 0 bt390.1 bt390.2)
theorem qW.jD : ∀ k, (∀ y0 y1 y2 y3, LeO (qW.l0 k y0 y1 y2 y3) (qW.l0 (k + 1) y0 y1 y2 y3))
 | 0 => fun _ _ _ _ r h => by simp [qW.l0] at h
 | k + 1 => by
  have ih0 := qW.jD k
  ·intro y0 y1 y2 y3
   unfold qW.l0
   repeat' first | with_reducible first | exact ih0 _ _ _ _ | exact qZ.mono _ _ | exact zZ.mono _ _ _ _ _ | exact lr _ | exact ln _ | refine li ?_ ?_ | refine lb ?_ fun _ => ?_ | exact ih0 _ _ _ _ | exact qZ.mono _ _ | exact zZ.mono _ _ _ _ _ | exact ln _ | refine li ?_ ?_ | refine lb ?_ fun _ => ?_
theorem qW.mono : ∀ a0 k, LeO (qW.f k a0) (qW.f (k + 1) a0) := by
 intro a0 k
 have ih0 := qW.jD k
 unfold qW.f
 repeat' first | with_reducible first | exact ih0 _ _ _ _ | exact qZ.mono _ _ | exact zZ.mono _ _ _ _ _ | exact lr _ | exact ln _ | refine li ?_ ?_ | refine lb ?_ fun _ => ?_ | exact ih0 _ _ _ _ | exact qZ.mono _ _ | exact zZ.mono _ _ _ _ _ | exact ln _ | refine li ?_ ?_ | refine lb ?_ fun _ => ?_
theorem qW.calls (k : Nat) (a0 : Int) (r1 : Bool) (r2 : List Int) (w : World) (h : qW.f k a0 = some (r1, r2)) :
  Calls Tryz.prog 105 #[.int .i64 a0] w fun e w' => ∃ v1_ : Value, e = .returned (.agg #[.bool r1, v1_]) ∧ Kd.V (Kd.int .i64) 3 w' w.heap.size (fun k_ => (w.heap.size ≤ k_)) v1_ r2 ∧ Below w.heap.size w w' := by
 have hu121 := Tryz.underlying121
 have HB := zQ.mk (Below.refl w.heap.size w)
 have H := h
 unfold qW.f at H
 clear h
 replace H := Option.bind_eq_some_iff.mp H
 obtain ⟨⟨t390, t391⟩, A20, H⟩ := H
 try dsimp only at H
 have A2 := zQ.mk A20
 clear A20
 have H' := zQ.mk H
 clear H
 go_enter Tryz.func105, Tryz.ntmps105
 go_wp2_with (first | ((with_reducible refine gD 2 rfl ?_); refine bx w 2 #[.bool false, .slice none 0 0] 121 ?_; intro gb389 hg w3 hb BK389 GW389 GE389; clear HB; intro HB; clear hb hg) | ((with_reducible refine gC 104 rfl ?_); refine gl_ 4 Tryz.func104 #[.int .i64 1] ?_; (with_reducible refine (qZ.calls k 1 t390 t391 _ A2.out).mono ?_); rintro e w4 ⟨v392, rfl, ho0, hb⟩; refine ⟨_, rfl, ?_⟩; have HO393 := zQ.mk (Kd.vU (Kd.R_newM (M := fun k_ => (w.heap.size ≤ k_)) ho0 (zB (zb w)) (fun k_ h_ => h_)) (zB (zb w))); replace BK389 := bb BK389 hb; replace HB := hs w hb; (try clear hb); (try clear ho0)) | ((with_reducible refine gD 3 rfl ?_); refine xQ ?hg (N := 3) ?hd (cs := #[.bool false, .slice none 0 0]) (t := 121) ?hr ?_; (case hd => rfl); (case hg => rfl); (case hr => first | (go_simp; done) | (go_simp; rfl)); intro gb394 hg w5 hbox hb; replace HO393 := rb HO393 hb; have BK394 := zQ.mk (hbox); have GW394 := zQ.mk ((by rw [hg]; exact (zB (zb w)) : w.heap.size ≤ gb394)); have GE394 := zQ.mk ((by rw [hg]; exact (zB (zb w)) : w.heap.size ≤ gb394)); replace HB := hs w hb; have NB389_394 := nbl BK389 hg; have NB394_389 := nbr BK389 hg; replace BK389 := bb BK389 hb; clear hb hg; have hnb6 := NB394_389.out; have hnc6 := NB389_394.out; obtain ⟨hcz7_0, hcz7_1, hfz7_0, hfz7_1⟩ := cz2 BK394; obtain ⟨Ao8, co8, eo8⟩ := Kd.xw HO393.out; subst eo8))
 try simp only [sq]
 go_loopg [6] k (fun kq v6 w' => ∃ (x6_1 : Int) (x395000_1 : Bool) (x395001_1 : List Int) (u395001 : Value), v6 = .int .i64 x6_1 ∧ zQ (qW.l0 kq a0 x6_1 x395000_1 x395001_1 = some (r1, r2)) ∧ zQ (kq ≤ k) ∧ zQ (Kd.V (Kd.int .i64) 3 w' w.heap.size (fun k_ => (w.heap.size ≤ k_) ∧ k_ ≠ gb389 ∧ k_ ≠ gb394) u395001 x395001_1) ∧ zQ (w'.heap[gb389]? = some (.cells #[.bool false, (.slice none 0 0)] 121 (0, 0))) ∧ zQ (w'.heap[gb394]? = some (.cells #[.bool x395000_1, u395001] 121 (0, 0))) ∧ zQ (Below w.heap.size w w'))
 case atStart => exact ⟨(0), (t390), (t391), (.slice Ao8 t391.length co8), ar, H', ⟨Nat.le_refl _⟩, ⟨Kd.R_V (by (with_reducible repeat (first | apply Kd.xS | apply Kd.xR | apply Kd.xy)); exact Kd.vF (Kd.R_far (p := ⟨gb394, 1, none⟩) (Kd.R_far (p := ⟨gb394, 0, none⟩) (Kd.zG (Kd.zG (Kd.zG HO393.out BK389.out (by decide)) BK394.out (by decide)) BK394.out (by decide)) (fun _ hk => hk.2) (.bool t390)) (fun _ hk => hk.2) (.slice Ao8 t391.length co8)) (fun _ hk => ⟨hk.1.1.1.1, ⟨hk.1.1.2, hk.1.2⟩⟩))⟩, ⟨by (with_reducible repeat (first | refine zV ?_ _ | refine zW ?_ | refine zJ ?_ _)); refine zP ?_ NB389_394.out _; (with_reducible repeat (first | refine zV ?_ _ | refine zW ?_ | refine zJ ?_ _)); refine zP ?_ NB389_394.out _; exact zk BK389⟩, ⟨by (with_reducible repeat (first | refine zV ?_ _ | refine zW ?_ | refine zJ ?_ _)); refine zU (cs := #[.bool t390, .slice none 0 0]) ?_ 1 _ rfl; (with_reducible repeat (first | refine zV ?_ _ | refine zW ?_ | refine zJ ?_ _)); refine zU (cs := #[.bool false, .slice none 0 0]) ?_ 0 _ rfl; exact zk BK394⟩, ⟨(zb w)⟩⟩
 case round =>
  clear H'
  try clear c1
  try clear p2
  try clear c6
  try clear hcz7_0 hcz7_1 hfz7_0 hfz7_1
  obtain ⟨x6_1, x395000_1, x395001_1, u395001, rfl, HA, HK1, HO_395001, BK389, BK394, HB⟩ := hrel
  cases gk with
  | zero => exact absurd HA.out (by simp [qW.l0])
  | succ k1 =>
   have H := HA.out
   clear HA
   simp only [qW.l0] at H
   by_cases c9 : x6_1 < a0
   ·rw [if_pos c9] at H
    have c9b0 : decide (x6_1 < a0) = true := decide_eq_true c9
    clear c9
    replace H := Option.bind_eq_some_iff.mp H
    obtain ⟨⟨t395, t396⟩, A100, H⟩ := H
    try dsimp only at H
    have A10 := zQ.mk A100
    clear A100
    replace H := Option.bind_eq_some_iff.mp H
    obtain ⟨⟨t399, t400⟩, A110, H⟩ := H
    try dsimp only at H
    have A11 := zQ.mk A110
    clear A110
    have H' := zQ.mk H
    clear H
    try go_wp2
    have n0_ := zQ.mk (Kd.qj HO_395001.out)
    have n1_ := zQ.mk (zW BK389.out)
    have n2_ := zQ.mk (zW BK394.out)
    have n3_ := zQ.mk (jW HB.out)
    clear HO_395001
    clear BK389
    clear BK394
    clear HB
    have HO_395001 := n0_
    have BK389 := n1_
    have BK394 := n2_
    have HB := n3_
    clear n0_ n1_ n2_ n3_
    refine uk (n := 4) (S := fun w' => w'.cell? ⟨gb394, 0, none⟩ = some (.bool x395000_1) ∧ w'.cell? ⟨gb394, 1, none⟩ = some (u395001)) (ds := [3]) (bm 4 0) (by kernel_rfl) rfl rfl ⟨(zD BK394.out 0).trans rfl, (zD BK394.out 1).trans rfl⟩ (fun hHeld => ?_)
    generalize wr.drew = w12 at HO_395001 BK389 BK394 HB hHeld ⊢
    refine take_ (i := 0) (N := some 8) (v := ?_) (a' := ?_) (bm 4 1) rfl rfl (by kernel_rfl) (fun _ _ _ h => h) (Or.inl ⟨by rfl, ?_⟩) hHeld ?_ ?_
    rotate_left
    ·rintro w' ⟨s0, s1⟩
     go_simp
     with_reducible rfl
    rotate_left
    ·simp only [sq, i64_w, i32_w]
     rfl
    refine one_ (i := 1) (N := some 9) (bm 4 3) rfl rfl (by kernel_rfl) (by decide) (fun K hK => ?_)
    refine gs Tryz.func104 #[.int .i64 10] ?_
    with_reducible refine (qZ.calls k1 10 t395 t396 _ A10.out).mono ?_
    rintro e w13 ⟨v397, rfl, ho0, hb⟩
    refine ⟨_, rfl, ?_⟩
    have n0_ := zQ.mk (Kd.V_elder' (by (with_reducible repeat (first | apply Kd.qK | apply Kd.qJ | apply Kd.qj)); exact HO_395001.out) (Kd.R_base ho0) hb)
    have n1_ := zQ.mk (Kd.vU (Kd.R_newM (M := fun k_ => (w.heap.size ≤ k_)) ho0 (zB (zb w)) (fun k_ h_ => h_)) (zB (zb w)))
    have n2_ := bb BK389 hb
    have n3_ := bb BK394 hb
    have n4_ := hs w hb
    clear HO_395001
    clear BK389
    clear BK394
    clear HB
    have HO_395001 := n0_
    have HO398 := n1_
    have BK389 := n2_
    have BK394 := n3_
    have HB := n4_
    clear n0_ n1_ n2_ n3_ n4_
    (try clear hb)
    (try clear hb2)
    (try clear hk)
    (try clear hi)
    (try clear ho0)
    obtain ⟨Ao14, co14, eo14⟩ := Kd.jE HO_395001.out
    (first | subst eo14 | (injection eo14 with f1_ f2_ f3_; have f4_ := f1_.symm; have f5_ := f3_.symm; clear f1_ f2_ f3_; subst f4_; subst f5_))
    obtain ⟨Ao15, co15, eo15⟩ := Kd.xw HO398.out
    (first | subst eo15 | (injection eo15 with f1_ f2_ f3_; have f4_ := f1_.symm; have f5_ := f3_.symm; clear f1_ f2_ f3_; subst f4_; subst f5_))
    refine hK.out _ _ ⟨(zD BK394.out 0).trans rfl, (zD BK394.out 1).trans rfl⟩ (fun hHeld => ?_)
    clear hK K
    refine norm_ (a' := ?_) ?_ ?_
    rotate_left
    ·show Act.put _ (some 9) _ = _
     simp only [sq, i64_w, i32_w]
     rfl
    refine one_ (i := 2) (N := some 10) (bm 4 7) rfl rfl (by kernel_rfl) (by decide) (fun K hK => ?_)
    refine gs Tryz.func103 #[.agg #[.bool x395000_1, .slice Ao14 x395001_1.length co14], .agg #[.bool t395, .slice Ao15 t396.length co15]] ?_
    with_reducible refine (zZ.calls k1 x395000_1 _ _ x395001_1 t395 _ _ t396 t399 t400 _ ?side1 ?side2 ?side3 ?side4 A11.out).mono ?_
    (case side1 => repeat (first | exact (Kd.qL HO_395001.out).2.2 | (with_reducible refine Kd.xK ?_ _) | (with_reducible refine Kd.xX ?_ _) | (with_reducible refine Kd.vZ ?_)))
    (case side2 => exact (Kd.qL HO_395001.out).2.1)
    (case side3 => repeat (first | exact (Kd.jN HO398.out).2.2 | (with_reducible refine Kd.xK ?_ _) | (with_reducible refine Kd.xX ?_ _) | (with_reducible refine Kd.vZ ?_)))
    (case side4 => exact (Kd.jN HO398.out).2.1)
    rintro e w16 ⟨v401, rfl, ho0, hb⟩
    refine ⟨_, rfl, ?_⟩
    have n0_ := zQ.mk (Kd.qw (by (with_reducible repeat (first | apply Kd.qK | apply Kd.qJ | apply Kd.qj)); exact HO_395001.out) hb)
    have n1_ := rb HO398 hb
    have n2_ := zQ.mk (Kd.xJ (Kd.qX (ok' := fun k_ => (w.heap.size ≤ k_) ∧ some k_ ≠ (.slice Ao15 t396.length co15 : Value).ownBlock ∧ k_ ≠ gb389 ∧ k_ ≠ gb394) ho0 (fun k_ hk_ => ⟨(Nat.le_trans (zB (zb w)) hk_), (Kd.fresh' (Kd.R_lt (zo HO398)) k_ hk_), (Kd.qU (g := gb389) (o := .cells #[.bool false, .slice none 0 0] 121 (0, 0)) (zk BK389) k_ hk_), (Kd.qU (g := gb394) (o := .cells #[.bool x395000_1, .slice Ao14 x395001_1.length co14] 121 (0, 0)) (zk BK394) k_ hk_)⟩)) (zB (zb w)))
    have n3_ := bb BK389 hb
    have n4_ := bb BK394 hb
    have n5_ := hs w hb
    clear HO_395001
    clear HO398
    clear BK389
    clear BK394
    clear HB
    have HO_395001 := n0_
    have HO398 := n1_
    have HO402 := n2_
    have BK389 := n3_
    have BK394 := n4_
    have HB := n5_
    clear n0_ n1_ n2_ n3_ n4_ n5_
    (try clear hb)
    (try clear hb2)
    (try clear hk)
    (try clear hi)
    (try clear ho0)
    obtain ⟨Ao18, co18, eo18⟩ := Kd.jE HO402.out
    (first | subst eo18 | (injection eo18 with f1_ f2_ f3_; have f4_ := f1_.symm; have f5_ := f3_.symm; clear f1_ f2_ f3_; subst f4_; subst f5_))
    refine hK.out _ _ ⟨(zD BK394.out 0).trans rfl, (zD BK394.out 1).trans rfl⟩ (fun hHeld => ?_)
    clear hK K
    refine norm_ (a' := ?_) ?_ ?_
    rotate_left
    ·show Act.put _ (some 10) _ = _
     simp only [sq, i64_w, i32_w]
     rfl
    refine last_ (i := 3) (N := none) (bm 4 15) rfl rfl (by kernel_rfl) (by decide) (fun K hK => ?_)
    have hs17 : w16.cell? ⟨gb394, 0, none⟩ = some (.bool x395000_1) := (zD BK394.out 0).trans rfl
    have hfs17 := qz BK394.out 0
    have hns17_0 := NB389_394.out
    have hms17_0 := NB394_389.out
    have hs19 : w16.cell? ⟨gb394, 1, none⟩ = some (.slice Ao14 x395001_1.length co14) := (zD BK394.out 1).trans rfl
    have hfs19 := qz BK394.out 1
    have hns19_0 := NB389_394.out
    have hms19_0 := NB394_389.out
    refine skip_ (w1 := ?_) (by rfl) rfl ?_ ?_
    rotate_left
    ·go_simp
     rfl
    refine hK.out _ _ ?_
    clear hK K
    refine done_ (by kernel_rfl) ?_
    try go_wp2
    go_roundg k1
    case measure => have := HK1.out; omega
    case rel => exact ⟨(wrap64 (x6_1 + 1)), (t399), (t400), (.slice Ao18 t400.length co18), ar, H', ⟨by have := HK1.out; omega⟩, ⟨by (with_reducible repeat (first | apply Kd.qK | apply Kd.qJ | apply Kd.qj)); exact Kd.qX (Kd.V_far (p := ⟨gb394, 1, none⟩) (Kd.V_far (p := ⟨gb394, 0, none⟩) (Kd.qX HO402.out (fun k_ hk => (⟨hk, hk.2.2.2⟩ : _ ∧ k_ ≠ gb394))) (fun _ hk => hk.2) (.bool t399)) (fun _ hk => hk.2) (.slice Ao18 t400.length co18)) (fun _ hk => ⟨hk.1.1, ⟨hk.1.2.2.1, hk.1.2.2.2⟩⟩)⟩, ⟨by (with_reducible repeat (first | refine zV ?_ _ | refine zW ?_ | refine zJ ?_ _)); refine zP ?_ NB389_394.out _; (with_reducible repeat (first | refine zV ?_ _ | refine zW ?_ | refine zJ ?_ _)); refine zP ?_ NB389_394.out _; exact zk BK389⟩, ⟨by (with_reducible repeat (first | refine zV ?_ _ | refine zW ?_ | refine zJ ?_ _)); refine zU (cs := #[.bool t399, .slice Ao14 x395001_1.length co14]) ?_ 1 _ rfl; (with_reducible repeat (first | refine zV ?_ _ | refine zW ?_ | refine zJ ?_ _)); refine zU (cs := #[.bool x395000_1, .slice Ao14 x395001_1.length co14]) ?_ 0 _ rfl; exact zk BK394⟩, ⟨(zb w)⟩⟩
   ·rw [if_neg c9] at H
    have c9b0 : decide (x6_1 < a0) = false := decide_eq_false c9
    clear c9
    simp only [Option.some.injEq, Prod.mk.injEq] at H
    obtain ⟨rfl, rfl⟩ := H
    have hnb20 := NB394_389.out
    have hnc20 := NB389_394.out
    obtain ⟨hcz21_0, hcz21_1, hfz21_0, hfz21_1⟩ := cz2 BK394
    obtain ⟨hcz22_0, hcz22_1, hfz22_0, hfz22_1⟩ := cz2 BK389
    obtain ⟨Ao23, co23, eo23⟩ := Kd.jE HO_395001.out
    subst eo23
    go_wp2
    refine bodyPost_ret (results_cell_row rfl _ _ gb389 121 #[.bool x395000_1, .slice Ao23 x395001_1.length co23] (0, 0) _ rfl (by (with_reducible repeat (first | refine zV ?_ _ | refine zW ?_ | refine zJ ?_ _)); refine zU (cs := #[.bool x395000_1, .slice none 0 0]) ?_ 1 _ rfl; (with_reducible repeat (first | refine zV ?_ _ | refine zW ?_ | refine zJ ?_ _)); refine zU (cs := #[.bool false, .slice none 0 0]) ?_ 0 _ rfl; exact zk BK389) Tryz.underlying121 rfl (by kernel_rfl)) rfl ?_
    exact ⟨_, by first | rfl | (simp [zw, zq] <;> rfl) | (simp [*, zw, zq] <;> rfl), by (with_reducible repeat (first | apply Kd.qK | apply Kd.qJ | apply Kd.qj)); exact Kd.qX (Kd.V_far (p := ⟨gb389, 1, none⟩) (Kd.V_far (p := ⟨gb389, 0, none⟩) (Kd.qX HO_395001.out (fun k_ hk => (⟨hk, hk.2.1⟩ : _ ∧ k_ ≠ gb389))) (fun _ hk => hk.2) (.bool x395000_1)) (fun _ hk => hk.2) (.slice Ao23 x395001_1.length co23)) (fun _ hk => hk.1.1), (zb w)⟩
def qy.f (k : Nat) (a0_0 : Int) (a0_1 : Int) (a1 : Int) : Option (Bool × List Int) := (qZ.f k a0_0).bind fun bt405 => ((qW.f k (wrap64 (a1 - a0_1))).bind fun bt409 => ((zZ.f k bt405.1 bt405.2 bt409.1 bt409.2).bind fun bt413 => (some (bt413.1, bt413.2))))
theorem qy.mono : ∀ a0 a1 a2 k, LeO (qy.f k a0 a1 a2) (qy.f (k + 1) a0 a1 a2) := by
 intro a0 a1 a2 k
 unfold qy.f
 repeat' first | with_reducible first | exact qZ.mono _ _ | exact qW.mono _ _ | exact zZ.mono _ _ _ _ _ | exact lr _ | exact ln _ | refine li ?_ ?_ | refine lb ?_ fun _ => ?_ | exact qZ.mono _ _ | exact qW.mono _ _ | exact zZ.mono _ _ _ _ _ | exact ln _ | refine li ?_ ?_ | refine lb ?_ fun _ => ?_
def qy.T1 : Bool × List (List Nat × List Nat) := (true, [([], []), ([0], [0]), ([1], [1]), ([], []), ([], []), ([4], [4]), ([3, 5], [3, 5]), ([6, 2], [6]), ([2, 7, 7], [2, 7]), ([8, 8, 0, 1, 2, 3, 4, 5, 6, 7, 8], [8])])
def qy.B1 : List Nat := [0, 1, 3, 0, 0, 16, 56, 127, 255, 511]
theorem qy.tab1 : rtab .any (opsOf Tryz.f87 1) = qy.T1 := by kernel_rfl
theorem qy.bits1 : yz qy.T1.2 qy.B1 = true := by kernel_rfl
theorem qy.calls (k : Nat) (a0_0 : Int) (a0_1 : Int) (a1 : Int) (r1 : Bool) (r2 : List Int) (w : World) (h : qy.f k a0_0 a0_1 a1 = some (r1, r2)) :
  Calls Tryz.prog 87 #[.agg #[.int .i64 a0_0, .int .i64 a0_1], .int .i64 a1] w fun e w' => ∃ v1_ : Value, e = .returned (.agg #[.bool r1, v1_]) ∧ Kd.V (Kd.int .i64) 3 w' w.heap.size (fun k_ => (w.heap.size ≤ k_)) v1_ r2 ∧ Below w.heap.size w w' := by
 have hu33 := Tryz.underlying33
 have hu121 := Tryz.underlying121
 have HB := zQ.mk (Below.refl w.heap.size w)
 have H := h
 unfold qy.f at H
 clear h
 replace H := Option.bind_eq_some_iff.mp H
 obtain ⟨⟨t405, t406⟩, A30, H⟩ := H
 try dsimp only at H
 have A3 := zQ.mk A30
 clear A30
 replace H := Option.bind_eq_some_iff.mp H
 obtain ⟨⟨t409, t410⟩, A40, H⟩ := H
 try dsimp only at H
 have A4 := zQ.mk A40
 clear A40
 replace H := Option.bind_eq_some_iff.mp H
 obtain ⟨⟨t413, t414⟩, A50, H⟩ := H
 try dsimp only at H
 have A5 := zQ.mk A50
 clear A50
 simp only [Option.some.injEq, Prod.mk.injEq] at H
 obtain ⟨rfl, rfl⟩ := H
 go_enter Tryz.func87, Tryz.ntmps87
 try go_wp2_with (first | ((with_reducible refine gD 2 rfl ?_); refine bx w 2 #[.int .i64 a0_0, .int .i64 a0_1] 33 ?_; intro gb403 hg w6 hb BK403 GW403 GE403; clear HB; intro HB; clear hb hg) | ((with_reducible refine gD 4 rfl ?_); refine bx w 4 #[.bool false, .slice none 0 0] 121 ?_; intro gb404 hg w7 hb BK404 GW404 GE404; clear HB; intro HB; have NB403_404 := nbl BK403 hg; have NB404_403 := nbr BK403 hg; replace BK403 := bb BK403 hb; clear hb hg))
 have n0_ := zQ.mk (zW BK403.out)
 have n1_ := zQ.mk (zW BK404.out)
 have n2_ := zQ.mk (jW HB.out)
 clear BK403
 clear BK404
 clear HB
 have BK403 := n0_
 have BK404 := n1_
 have HB := n2_
 clear n0_ n1_ n2_
 refine uk (n := 10) (S := fun w' => w'.cell? ⟨gb403, 0, none⟩ = some (.int .i64 a0_0) ∧ w'.cell? ⟨gb403, 1, none⟩ = some (.int .i64 a0_1)) (ds := []) (bm 10 0) (by kernel_rfl) rfl rfl ⟨(zD BK403.out 0).trans rfl, (zD BK403.out 1).trans rfl⟩ (fun hHeld => ?_); refine vH qy.tab1 qy.bits1 (fun HT_ HW_ => ?_)
 generalize w7.drew = w8 at BK403 BK404 HB hHeld ⊢
 refine pu 0 5 (bm 10 1) HT_ ?_
 refine pu 3 8 (bm 10 9) HT_ ?_
 refine pu 4 9 (bm 10 25) HT_ ?_
 refine ta2 1 6 (bm 10 27) HT_ HW_ hHeld ?_
 refine ta2 5 10 (bm 10 59) HT_ HW_ hHeld ?_
 refine pu 6 11 (bm 10 123) HT_ ?_
 refine one_ (i := 2) (N := some 7) (bm 10 127) rfl rfl (yM HT_.out (by kernel_rfl)) (by decide) (fun K hK => ?_)
 refine gs Tryz.func104 #[.int .i64 a0_0] ?_
 with_reducible refine (qZ.calls k a0_0 t405 t406 _ A3.out).mono ?_
 rintro e w9 ⟨v407, rfl, ho0, hb⟩
 refine ⟨_, rfl, ?_⟩
 have n0_ := zQ.mk (Kd.vU (Kd.R_newM (M := fun k_ => (w.heap.size ≤ k_)) ho0 (zB (zb w)) (fun k_ h_ => h_)) (zB (zb w)))
 have n1_ := bb BK403 hb
 have n2_ := bb BK404 hb
 have n3_ := hs w hb
 clear BK403
 clear BK404
 clear HB
 have HO408 := n0_
 have BK403 := n1_
 have BK404 := n2_
 have HB := n3_
 clear n0_ n1_ n2_ n3_
 (try clear hb)
 (try clear hb2)
 (try clear hk)
 (try clear hi)
 (try clear ho0)
 refine hK.out _ _ ⟨(zD BK403.out 0).trans rfl, (zD BK403.out 1).trans rfl⟩ (fun hHeld => ?_)
 clear hK K
 refine norm_ (a' := ?_) ?_ ?_
 rotate_left
 ·show Act.put _ (some 7) _ = _
  simp only [sq, i64_w, i32_w]
  rfl
 refine one_ (i := 7) (N := some 12) (bm 10 255) rfl rfl (yM HT_.out (by kernel_rfl)) (by decide) (fun K hK => ?_)
 refine gs Tryz.func105 #[.int .i64 (wrap64 (a1 - a0_1))] ?_
 with_reducible refine (qW.calls k (wrap64 (a1 - a0_1)) t409 t410 _ A4.out).mono ?_
 rintro e w10 ⟨v411, rfl, ho0, hb⟩
 refine ⟨_, rfl, ?_⟩
 have n0_ := rb HO408 hb
 have n1_ := zQ.mk (Kd.xJ (Kd.qX (ok' := fun k_ => (w.heap.size ≤ k_) ∧ some k_ ≠ (v407 : Value).ownBlock ∧ k_ ≠ gb403 ∧ k_ ≠ gb404) ho0 (fun k_ hk_ => ⟨(Nat.le_trans (zB (zb w)) hk_), (Kd.fresh' (Kd.R_lt (zo HO408)) k_ hk_), (Kd.qU (g := gb403) (o := .cells #[.int .i64 a0_0, .int .i64 a0_1] 33 (0, 0)) (zk BK403) k_ hk_), (Kd.qU (g := gb404) (o := .cells #[.bool false, .slice none 0 0] 121 (0, 0)) (zk BK404) k_ hk_)⟩)) (zB (zb w)))
 have n2_ := bb BK403 hb
 have n3_ := bb BK404 hb
 have n4_ := hs w hb
 clear HO408
 clear BK403
 clear BK404
 clear HB
 have HO408 := n0_
 have HO412 := n1_
 have BK403 := n2_
 have BK404 := n3_
 have HB := n4_
 clear n0_ n1_ n2_ n3_ n4_
 (try clear hb)
 (try clear hb2)
 (try clear hk)
 (try clear hi)
 (try clear ho0)
 obtain ⟨Ao11, co11, eo11⟩ := Kd.xw HO408.out
 (first | subst eo11 | (injection eo11 with f1_ f2_ f3_; have f4_ := f1_.symm; have f5_ := f3_.symm; clear f1_ f2_ f3_; subst f4_; subst f5_))
 obtain ⟨Ao12, co12, eo12⟩ := Kd.jE HO412.out
 (first | subst eo12 | (injection eo12 with f1_ f2_ f3_; have f4_ := f1_.symm; have f5_ := f3_.symm; clear f1_ f2_ f3_; subst f4_; subst f5_))
 refine hK.out _ _ ⟨(zD BK403.out 0).trans rfl, (zD BK403.out 1).trans rfl⟩ (fun hHeld => ?_)
 clear hK K
 refine norm_ (a' := ?_) ?_ ?_
 rotate_left
 ·show Act.put _ (some 12) _ = _
  simp only [sq, i64_w, i32_w]
  rfl
 refine one_ (i := 8) (N := some 13) (bm 10 511) rfl rfl (yM HT_.out (by kernel_rfl)) (by decide) (fun K hK => ?_)
 refine gs Tryz.func103 #[.agg #[.bool t405, .slice Ao11 t406.length co11], .agg #[.bool t409, .slice Ao12 t410.length co12]] ?_
 with_reducible refine (zZ.calls k t405 _ _ t406 t409 _ _ t410 t413 t414 _ ?side1 ?side2 ?side3 ?side4 A5.out).mono ?_
 (case side1 => repeat (first | exact (Kd.jN HO408.out).2.2 | (with_reducible refine Kd.xK ?_ _) | (with_reducible refine Kd.xX ?_ _) | (with_reducible refine Kd.vZ ?_)))
 (case side2 => exact (Kd.jN HO408.out).2.1)
 (case side3 => repeat (first | exact (Kd.qL HO412.out).2.2 | (with_reducible refine Kd.xK ?_ _) | (with_reducible refine Kd.xX ?_ _) | (with_reducible refine Kd.vZ ?_)))
 (case side4 => exact (Kd.qL HO412.out).2.1)
 rintro e w13 ⟨v415, rfl, ho0, hb⟩
 refine ⟨_, rfl, ?_⟩
 have n0_ := rb HO408 hb
 have n1_ := zQ.mk (Kd.qw (by (with_reducible repeat (first | apply Kd.qK | apply Kd.qJ | apply Kd.qj)); exact HO412.out) hb)
 have n2_ := zQ.mk (Kd.xJ (Kd.qX (ok' := fun k_ => (w.heap.size ≤ k_) ∧ some k_ ≠ (.slice Ao11 t406.length co11 : Value).ownBlock ∧ k_ ≠ gb403 ∧ k_ ≠ gb404) ho0 (fun k_ hk_ => ⟨(Nat.le_trans (zB (zb w)) hk_), (Kd.fresh' (Kd.R_lt (zo HO408)) k_ hk_), (Kd.qU (g := gb403) (o := .cells #[.int .i64 a0_0, .int .i64 a0_1] 33 (0, 0)) (zk BK403) k_ hk_), (Kd.qU (g := gb404) (o := .cells #[.bool false, .slice none 0 0] 121 (0, 0)) (zk BK404) k_ hk_)⟩)) (zB (zb w)))
 have n3_ := bb BK403 hb
 have n4_ := bb BK404 hb
 have n5_ := hs w hb
 clear HO408
 clear HO412
 clear BK403
 clear BK404
 clear HB
 have HO408 := n0_
 have HO412 := n1_
 have HO416 := n2_
 have BK403 := n3_
 have BK404 := n4_
 have HB := n5_
 clear n0_ n1_ n2_ n3_ n4_ n5_
 (try clear hb)
 (try clear hb2)
 (try clear hk)
 (try clear hi)
 (try clear ho0)
 obtain ⟨Ao15, co15, eo15⟩ := Kd.jE HO416.out
 (first | subst eo15 | (injection eo15 with f1_ f2_ f3_; have f4_ := f1_.symm; have f5_ := f3_.symm; clear f1_ f2_ f3_; subst f4_; subst f5_))
 refine hK.out _ _ ⟨(zD BK403.out 0).trans rfl, (zD BK403.out 1).trans rfl⟩ (fun hHeld => ?_)
 clear hK K
 refine norm_ (a' := ?_) ?_ ?_
 rotate_left
 ·show Act.put _ (some 13) _ = _
  simp only [sq, i64_w, i32_w]
  rfl
 refine one_ (i := 9) (N := none) (bm 10 1023) rfl rfl (yM HT_.out (by kernel_rfl)) (by decide) (fun K hK => ?_)
 have hs14 : w13.cell? ⟨gb404, 0, none⟩ = some (.bool false) := (zD BK404.out 0).trans rfl
 have hfs14 := qz BK404.out 0
 have hns14_0 := NB403_404.out
 have hms14_0 := NB404_403.out
 have hs16 : w13.cell? ⟨gb404, 1, none⟩ = some (.slice none 0 0) := (zD BK404.out 1).trans rfl
 have hfs16 := qz BK404.out 1
 have hns16_0 := NB403_404.out
 have hms16_0 := NB404_403.out
 refine skip_ (w1 := ?_) (by rfl) rfl ?_ ?_
 rotate_left
 ·go_simp
  rfl
 refine hK.out _ _ ⟨((cell_far (p := ⟨gb404, _, none⟩) NB403_404.out _).trans (((cell_far (p := ⟨gb404, _, none⟩) NB403_404.out _).trans (hHeld.1)))), ((cell_far (p := ⟨gb404, _, none⟩) NB403_404.out _).trans (((cell_far (p := ⟨gb404, _, none⟩) NB403_404.out _).trans (hHeld.2))))⟩ (fun hHeld => ?_)
 clear hK K
 refine done_ (uW HT_.out (by kernel_rfl)) ?_
 try go_wp2
 refine bodyPost_ret (results_cell_row rfl _ _ gb404 121 #[.bool t413, .slice Ao15 t414.length co15] (0, 0) _ rfl (by (with_reducible repeat (first | refine zV ?_ _ | refine zW ?_ | refine zJ ?_ _)); refine zU (cs := #[.bool t413, .slice none 0 0]) ?_ 1 _ rfl; (with_reducible repeat (first | refine zV ?_ _ | refine zW ?_ | refine zJ ?_ _)); refine zU (cs := #[.bool false, .slice none 0 0]) ?_ 0 _ rfl; exact zk BK404) Tryz.underlying121 rfl (by kernel_rfl)) rfl ?_
 exact ⟨_, by first | rfl | (simp [zw, zq] <;> rfl) | (simp [*, zw, zq] <;> rfl), by (with_reducible repeat (first | apply Kd.qK | apply Kd.qJ | apply Kd.qj)); exact Kd.qX (Kd.V_far (p := ⟨gb404, 1, none⟩) (Kd.V_far (p := ⟨gb404, 0, none⟩) (Kd.qX HO416.out (fun k_ hk => (⟨hk, hk.2.2.2⟩ : _ ∧ k_ ≠ gb404))) (fun _ hk => hk.2) (.bool t413)) (fun _ hk => hk.2) (.slice Ao15 t414.length co15)) (fun _ hk => hk.1.1), (zb w)⟩
def qF.f (k : Nat) (a0_0 : Int) (a0_1 : Int) (a1_0 : Int) (a1_1 : Int) : Option (Int) := (qy.f k a0_0 a0_1 9).bind fun bt419 => ((qy.f k a1_0 a1_1 9).bind fun bt423 => ((jv.f k bt419.1 bt419.2 bt423.1 bt423.2).bind fun t427 => (some t427)))
theorem qF.mono : ∀ a0 a1 a2 a3 k, LeO (qF.f k a0 a1 a2 a3) (qF.f (k + 1) a0 a1 a2 a3) := by
 intro a0 a1 a2 a3 k
 unfold qF.f
 repeat' first | with_reducible first | exact qy.mono _ _ _ _ | exact jv.mono _ _ _ _ _ | exact lr _ | exact ln _ | refine li ?_ ?_ | refine lb ?_ fun _ => ?_ | exact qy.mono _ _ _ _ | exact jv.mono _ _ _ _ _ | exact ln _ | refine li ?_ ?_ | refine lb ?_ fun _ => ?_
theorem qF.calls (k : Nat) (a0_0 : Int) (a0_1 : Int) (a1_0 : Int) (a1_1 : Int) (r : Int) (w : World) (h : qF.f k a0_0 a0_1 a1_0 a1_1 = some r) :
  Calls Tryz.prog 70 #[.agg #[.int .i64 a0_0, .int .i64 a0_1], .agg #[.int .i64 a1_0, .int .i64 a1_1]] w fun e w' => e = .returned (.int .i64 r) ∧ Below w.heap.size w w' := by
 have hu33 := Tryz.underlying33
 have HB := zQ.mk (Below.refl w.heap.size w)
 have H := h
 unfold qF.f at H
 clear h
 replace H := Option.bind_eq_some_iff.mp H
 obtain ⟨⟨t419, t420⟩, A30, H⟩ := H
 try dsimp only at H
 have A3 := zQ.mk A30
 clear A30
 replace H := Option.bind_eq_some_iff.mp H
 obtain ⟨⟨t423, t424⟩, A40, H⟩ := H
 try dsimp only at H
 have A4 := zQ.mk A40
 clear A40
 replace H := Option.bind_eq_some_iff.mp H
 obtain ⟨t427, A50, H⟩ := H
 try dsimp only at H
 have A5 := zQ.mk A50
 clear A50
 obtain rfl := Option.some.inj H
 go_enter Tryz.func70, Tryz.ntmps70
 try go_wp2_with (first | ((with_reducible refine gD 2 rfl ?_); refine bx w 2 #[.int .i64 a0_0, .int .i64 a0_1] 33 ?_; intro gb417 hg w6 hb BK417 GW417 GE417; clear HB; intro HB; clear hb hg) | ((with_reducible refine gD 3 rfl ?_); refine bx w 3 #[.int .i64 a1_0, .int .i64 a1_1] 33 ?_; intro gb418 hg w7 hb BK418 GW418 GE418; clear HB; intro HB; have NB417_418 := nbl BK417 hg; have NB418_417 := nbr BK417 hg; replace BK417 := bb BK417 hb; clear hb hg))
 have n0_ := zQ.mk (zW BK417.out)
 have n1_ := zQ.mk (zW BK418.out)
 have n2_ := zQ.mk (jW HB.out)
 clear BK417
 clear BK418
 clear HB
 have BK417 := n0_
 have BK418 := n1_
 have HB := n2_
 clear n0_ n1_ n2_
 refine uk (n := 6) (S := fun w' => w'.cell? ⟨gb417, 0, none⟩ = some (.int .i64 a0_0) ∧ w'.cell? ⟨gb417, 1, none⟩ = some (.int .i64 a0_1) ∧ w'.cell? ⟨gb418, 0, none⟩ = some (.int .i64 a1_0) ∧ w'.cell? ⟨gb418, 1, none⟩ = some (.int .i64 a1_1)) (ds := []) (bm 6 0) (by kernel_rfl) rfl rfl ⟨(zD BK417.out 0).trans rfl, (zD BK417.out 1).trans rfl, (zD BK418.out 0).trans rfl, (zD BK418.out 1).trans rfl⟩ (fun hHeld => ?_)
 generalize w7.drew = w8 at BK417 BK418 HB hHeld ⊢
 refine take_ (i := 0) (N := some 5) (v := ?_) (a' := ?_) (bm 6 1) rfl rfl (by kernel_rfl) (fun _ _ _ h => h) (Or.inl ⟨by rfl, ?_⟩) hHeld ?_ ?_
 rotate_left
 ·rintro w' ⟨s0, s1, s2, s3⟩
  go_simp
  with_reducible rfl
 rotate_left
 ·simp only [sq, i64_w, i32_w]
  rfl
 refine take_ (i := 2) (N := some 7) (v := ?_) (a' := ?_) (bm 6 5) rfl rfl (by kernel_rfl) (fun _ _ _ h => h) (Or.inl ⟨by rfl, ?_⟩) hHeld ?_ ?_
 rotate_left
 ·rintro w' ⟨s0, s1, s2, s3⟩
  go_simp
  with_reducible rfl
 rotate_left
 ·simp only [sq, i64_w, i32_w]
  rfl
 refine one_ (i := 1) (N := some 6) (bm 6 7) rfl rfl (by kernel_rfl) (by decide) (fun K hK => ?_)
 refine gs Tryz.func87 #[.agg #[.int .i64 a0_0, .int .i64 a0_1], .int .i64 9] ?_
 with_reducible refine (qy.calls k a0_0 a0_1 9 t419 t420 _ A3.out).mono ?_
 rintro e w9 ⟨v421, rfl, ho0, hb⟩
 refine ⟨_, rfl, ?_⟩
 have n0_ := zQ.mk (Kd.xJ (Kd.qX (ok' := fun k_ => k_ ≠ gb417 ∧ k_ ≠ gb418) ho0 (fun k_ hk_ => ⟨(Kd.qU (g := gb417) (o := .cells #[.int .i64 a0_0, .int .i64 a0_1] 33 (0, 0)) (zk BK417) k_ hk_), (Kd.qU (g := gb418) (o := .cells #[.int .i64 a1_0, .int .i64 a1_1] 33 (0, 0)) (zk BK418) k_ hk_)⟩)) (zB (zb w)))
 have n1_ := bb BK417 hb
 have n2_ := bb BK418 hb
 have n3_ := hs w hb
 clear BK417
 clear BK418
 clear HB
 have HO422 := n0_
 have BK417 := n1_
 have BK418 := n2_
 have HB := n3_
 clear n0_ n1_ n2_ n3_
 (try clear hb)
 (try clear hb2)
 (try clear hk)
 (try clear hi)
 (try clear ho0)
 refine hK.out _ _ ⟨(zD BK417.out 0).trans rfl, (zD BK417.out 1).trans rfl, (zD BK418.out 0).trans rfl, (zD BK418.out 1).trans rfl⟩ (fun hHeld => ?_)
 clear hK K
 refine norm_ (a' := ?_) ?_ ?_
 rotate_left
 ·show Act.put _ (some 6) _ = _
  simp only [sq, i64_w, i32_w]
  rfl
 refine one_ (i := 3) (N := some 8) (bm 6 15) rfl rfl (by kernel_rfl) (by decide) (fun K hK => ?_)
 refine gs Tryz.func87 #[.agg #[.int .i64 a1_0, .int .i64 a1_1], .int .i64 9] ?_
 with_reducible refine (qy.calls k a1_0 a1_1 9 t423 t424 _ A4.out).mono ?_
 rintro e w10 ⟨v425, rfl, ho0, hb⟩
 refine ⟨_, rfl, ?_⟩
 have n0_ := zQ.mk (Kd.qw (by (with_reducible repeat (first | apply Kd.qK | apply Kd.qJ | apply Kd.qj)); exact HO422.out) hb)
 have n1_ := zQ.mk (Kd.xJ (Kd.qX (ok' := fun k_ => k_ ≠ gb417 ∧ k_ ≠ gb418) ho0 (fun k_ hk_ => ⟨(Kd.qU (g := gb417) (o := .cells #[.int .i64 a0_0, .int .i64 a0_1] 33 (0, 0)) (zk BK417) k_ hk_), (Kd.qU (g := gb418) (o := .cells #[.int .i64 a1_0, .int .i64 a1_1] 33 (0, 0)) (zk BK418) k_ hk_)⟩)) (zB (zb w)))
 have n2_ := bb BK417 hb
 have n3_ := bb BK418 hb
 have n4_ := hs w hb
 clear HO422
 clear BK417
 clear BK418
 clear HB
 have HO422 := n0_
 have HO426 := n1_
 have BK417 := n2_
 have BK418 := n3_
 have HB := n4_
 clear n0_ n1_ n2_ n3_ n4_
 (try clear hb)
 (try clear hb2)
 (try clear hk)
 (try clear hi)
 (try clear ho0)
 obtain ⟨Ao11, co11, eo11⟩ := Kd.jE HO422.out
 (first | subst eo11 | (injection eo11 with f1_ f2_ f3_; have f4_ := f1_.symm; have f5_ := f3_.symm; clear f1_ f2_ f3_; subst f4_; subst f5_))
 obtain ⟨Ao12, co12, eo12⟩ := Kd.jE HO426.out
 (first | subst eo12 | (injection eo12 with f1_ f2_ f3_; have f4_ := f1_.symm; have f5_ := f3_.symm; clear f1_ f2_ f3_; subst f4_; subst f5_))
 refine hK.out _ _ ⟨(zD BK417.out 0).trans rfl, (zD BK417.out 1).trans rfl, (zD BK418.out 0).trans rfl, (zD BK418.out 1).trans rfl⟩ (fun hHeld => ?_)
 clear hK K
 refine norm_ (a' := ?_) ?_ ?_
 rotate_left
 ·show Act.put _ (some 8) _ = _
  simp only [sq, i64_w, i32_w]
  rfl
 refine one_ (i := 4) (N := some 9) (bm 6 31) rfl rfl (by kernel_rfl) (by decide) (fun K hK => ?_)
 refine gs Tryz.func86 #[.agg #[.bool t419, .slice Ao11 t420.length co11], .agg #[.bool t423, .slice Ao12 t424.length co12]] ?_
 with_reducible refine (jv.calls k t419 _ _ t420 t423 _ _ t424 t427 _ ?side1 ?side2 ?side3 ?side4 A5.out).mono ?_
 (case side1 => repeat (first | exact (Kd.qL HO422.out).2.2 | (with_reducible refine Kd.xK ?_ _) | (with_reducible refine Kd.xX ?_ _) | (with_reducible refine Kd.vZ ?_)))
 (case side2 => exact (Kd.qL HO422.out).2.1)
 (case side3 => repeat (first | exact (Kd.qL HO426.out).2.2 | (with_reducible refine Kd.xK ?_ _) | (with_reducible refine Kd.xX ?_ _) | (with_reducible refine Kd.vZ ?_)))
 (case side4 => exact (Kd.qL HO426.out).2.1)
 rintro e w13 ⟨rfl, hb⟩
 refine ⟨_, rfl, ?_⟩
 have n0_ := zQ.mk (Kd.qw (by (with_reducible repeat (first | apply Kd.qK | apply Kd.qJ | apply Kd.qj)); exact HO422.out) hb)
 have n1_ := zQ.mk (Kd.qw (by (with_reducible repeat (first | apply Kd.qK | apply Kd.qJ | apply Kd.qj)); exact HO426.out) hb)
 have n2_ := bb BK417 hb
 have n3_ := bb BK418 hb
 have n4_ := hs w hb
 clear HO422
 clear HO426
 clear BK417
 clear BK418
 clear HB
 have HO422 := n0_
 have HO426 := n1_
 have BK417 := n2_
 have BK418 := n3_
 have HB := n4_
 clear n0_ n1_ n2_ n3_ n4_
 (try clear hb)
 (try clear hb2)
 (try clear hk)
 (try clear hi)
 refine hK.out _ _ ⟨(zD BK417.out 0).trans rfl, (zD BK417.out 1).trans rfl, (zD BK418.out 0).trans rfl, (zD BK418.out 1).trans rfl⟩ (fun hHeld => ?_)
 clear hK K
 refine norm_ (a' := ?_) ?_ ?_
 rotate_left
 ·show Act.put _ (some 9) _ = _
  simp only [sq, i64_w, i32_w]
  rfl
 refine pure_ (i := 5) (N := some 4) (v := ?_) (a' := ?_) (bm 6 63) rfl rfl (by kernel_rfl) (fun _ _ _ h => h) (Or.inl ⟨by rfl, ?_⟩) ?_ ?_
 rotate_left
 ·intro w'
  go_simp
  with_reducible rfl
 rotate_left
 ·simp only [sq, i64_w, i32_w]
  rfl
 refine done_ (by kernel_rfl) ?_
 try go_wp2
 go_ret
 exact ⟨by first | rfl | (simp [zw, zq] <;> rfl) | (simp [*, zw, zq] <;> rfl), (zb w)⟩
def jK.f (k : Nat) (a0_0 : Int) (a0_1 : Int) (a1 : Int) (a2 : Int) (a3 : Int) : Option (Bool) := (jV.f a0_0 a0_1).bind fun t429 => (if t429 = 0 then (if a0_1 ≤ a3 then ((qF.f k a0_0 a0_1 a1 0).bind fun t430 => (if t430 ≥ 0 then ((qF.f k a0_0 a0_1 a2 0).bind fun t431 => (some (decide (t431 ≤ 0)))) else (some false))) else (some false)) else (some false))
theorem jK.mono : ∀ a0 a1 a2 a3 a4 k, LeO (jK.f k a0 a1 a2 a3 a4) (jK.f (k + 1) a0 a1 a2 a3 a4) := by
 intro a0 a1 a2 a3 a4 k
 unfold jK.f
 repeat' first | with_reducible first | exact qF.mono _ _ _ _ _ | exact lr _ | exact ln _ | refine li ?_ ?_ | refine lb ?_ fun _ => ?_ | exact qF.mono _ _ _ _ _ | exact ln _ | refine li ?_ ?_ | refine lb ?_ fun _ => ?_
theorem jK.calls (k : Nat) (a0_0 : Int) (a0_1 : Int) (a1 : Int) (a2 : Int) (a3 : Int) (r : Bool) (w : World) (h : jK.f k a0_0 a0_1 a1 a2 a3 = some r) :
  Calls Tryz.prog 52 #[.agg #[.int .i64 a0_0, .int .i64 a0_1], .int .i64 a1, .int .i64 a2, .int .i64 a3] w fun e w' => e = .returned (.bool r) ∧ Below w.heap.size w w' := by
 have hu33 := Tryz.underlying33
 have HB := zQ.mk (Below.refl w.heap.size w)
 have H := h
 unfold jK.f at H
 clear h
 replace H := Option.bind_eq_some_iff.mp H
 obtain ⟨t429, A50, H⟩ := H
 try dsimp only at H
 have A5 := zQ.mk A50
 clear A50
 by_cases c6 : t429 = 0
 ·rw [if_pos c6] at H
  have c6b0 : (t429 == 0) = true := beq_iff_eq.mpr c6
  have c6b1 : (t429 != 0) = false := bne_eq_false_iff_eq.mpr c6
  clear c6
  by_cases c7 : a0_1 ≤ a3
  ·rw [if_pos c7] at H
   have c7b0 : decide (a0_1 ≤ a3) = true := decide_eq_true c7
   clear c7
   replace H := Option.bind_eq_some_iff.mp H
   obtain ⟨t430, A80, H⟩ := H
   try dsimp only at H
   have A8 := zQ.mk A80
   clear A80
   by_cases c9 : t430 ≥ 0
   ·rw [if_pos c9] at H
    have c9b0 : decide (0 ≤ t430) = true := decide_eq_true c9
    clear c9
    replace H := Option.bind_eq_some_iff.mp H
    obtain ⟨t431, A100, H⟩ := H
    try dsimp only at H
    have A10 := zQ.mk A100
    clear A100
    obtain rfl := Option.some.inj H
    go_enter Tryz.func52, Tryz.ntmps52
    go_wp2_with (first | ((with_reducible refine gD 4 rfl ?_); refine bx w 4 #[.int .i64 a0_0, .int .i64 a0_1] 33 ?_; intro gb428 hg w11 hb BK428 GW428 GE428; clear HB; intro HB; clear hb hg; obtain ⟨hcz12_0, hcz12_1, hfz12_0, hfz12_1⟩ := cz2 BK428) | ((with_reducible refine gC 69 rfl ?_); refine gl_ 10 Tryz.func69 #[.agg #[.int .i64 a0_0, .int .i64 a0_1]] ?_; (with_reducible refine (jV.calls a0_0 a0_1 t429 _ A5.out).mono ?_); rintro e w13 ⟨rfl, hb⟩; refine ⟨_, rfl, ?_⟩; replace BK428 := bb BK428 hb; replace HB := hs w hb; (try clear hb); obtain ⟨hcz14_0, hcz14_1, hfz14_0, hfz14_1⟩ := cz2 BK428) | (go_at_call 70; (with_reducible refine (qF.calls k a0_0 a0_1 a1 0 t430 _ A8.out).mono ?_); rintro e w15 ⟨rfl, hb⟩; replace BK428 := bb BK428 hb; replace HB := hs w hb; (try clear hb); obtain ⟨hcz16_0, hcz16_1, hfz16_0, hfz16_1⟩ := cz2 BK428) | (go_at_call 70; (with_reducible refine (qF.calls k a0_0 a0_1 a2 0 t431 _ A10.out).mono ?_); rintro e w17 ⟨rfl, hb⟩; replace BK428 := bb BK428 hb; replace HB := hs w hb; (try clear hb)))
    go_ret
    exact ⟨by first | rfl | (simp [zw, zq] <;> rfl) | (simp [*, zw, zq] <;> rfl), (zb w)⟩
   ·rw [if_neg c9] at H
    have c9b0 : decide (0 ≤ t430) = false := decide_eq_false c9
    clear c9
    obtain rfl := Option.some.inj H
    go_enter Tryz.func52, Tryz.ntmps52
    go_wp2_with (first | ((with_reducible refine gD 4 rfl ?_); refine bx w 4 #[.int .i64 a0_0, .int .i64 a0_1] 33 ?_; intro gb428 hg w18 hb BK428 GW428 GE428; clear HB; intro HB; clear hb hg; obtain ⟨hcz19_0, hcz19_1, hfz19_0, hfz19_1⟩ := cz2 BK428) | ((with_reducible refine gC 69 rfl ?_); refine gl_ 10 Tryz.func69 #[.agg #[.int .i64 a0_0, .int .i64 a0_1]] ?_; (with_reducible refine (jV.calls a0_0 a0_1 t429 _ A5.out).mono ?_); rintro e w20 ⟨rfl, hb⟩; refine ⟨_, rfl, ?_⟩; replace BK428 := bb BK428 hb; replace HB := hs w hb; (try clear hb); obtain ⟨hcz21_0, hcz21_1, hfz21_0, hfz21_1⟩ := cz2 BK428) | (go_at_call 70; (with_reducible refine (qF.calls k a0_0 a0_1 a1 0 t430 _ A8.out).mono ?_); rintro e w22 ⟨rfl, hb⟩; replace BK428 := bb BK428 hb; replace HB := hs w hb; (try clear hb)))
    go_ret
    exact ⟨by first | rfl | (simp [zw, zq] <;> rfl) | (simp [*, zw, zq] <;> rfl), (zb w)⟩
  ·rw [if_neg c7] at H
   have c7b0 : decide (a0_1 ≤ a3) = false := decide_eq_false c7
   clear c7
   obtain rfl := Option.some.inj H
   go_enter Tryz.func52, Tryz.ntmps52
   go_wp2_with (first | ((with_reducible refine gD 4 rfl ?_); refine bx w 4 #[.int .i64 a0_0, .int .i64 a0_1] 33 ?_; intro gb428 hg w23 hb BK428 GW428 GE428; clear HB; intro HB; clear hb hg; obtain ⟨hcz24_0, hcz24_1, hfz24_0, hfz24_1⟩ := cz2 BK428) | ((with_reducible refine gC 69 rfl ?_); refine gl_ 10 Tryz.func69 #[.agg #[.int .i64 a0_0, .int .i64 a0_1]] ?_; (with_reducible refine (jV.calls a0_0 a0_1 t429 _ A5.out).mono ?_); rintro e w25 ⟨rfl, hb⟩; refine ⟨_, rfl, ?_⟩; replace BK428 := bb BK428 hb; replace HB := hs w hb; (try clear hb); obtain ⟨hcz26_0, hcz26_1, hfz26_0, hfz26_1⟩ := cz2 BK428))
   go_ret
   exact ⟨by first | rfl | (simp [zw, zq] <;> rfl) | (simp [*, zw, zq] <;> rfl), (zb w)⟩
 ·rw [if_neg c6] at H
  have c6b0 : (t429 == 0) = false := beq_eq_false_iff_ne.mpr c6
  have c6b1 : (t429 != 0) = true := bne_iff_ne.mpr c6
  obtain rfl := Option.some.inj H
  go_enter Tryz.func52, Tryz.ntmps52
  go_wp2_with (first | ((with_reducible refine gD 4 rfl ?_); refine bx w 4 #[.int .i64 a0_0, .int .i64 a0_1] 33 ?_; intro gb428 hg w27 hb BK428 GW428 GE428; clear HB; intro HB; clear hb hg; obtain ⟨hcz28_0, hcz28_1, hfz28_0, hfz28_1⟩ := cz2 BK428) | ((with_reducible refine gC 69 rfl ?_); refine gl_ 10 Tryz.func69 #[.agg #[.int .i64 a0_0, .int .i64 a0_1]] ?_; (with_reducible refine (jV.calls a0_0 a0_1 t429 _ A5.out).mono ?_); rintro e w29 ⟨rfl, hb⟩; refine ⟨_, rfl, ?_⟩; replace BK428 := bb BK428 hb; replace HB := hs w hb; (try clear hb)))
  go_ret
  exact ⟨by first | rfl | (simp [zw, zq] <;> rfl) | (simp [*, zw, zq] <;> rfl), (zb w)⟩
def zN.f (k : Nat) (a0_0 : Int) (a0_1 : Int) : Option (Bool) := (jK.f k a0_0 a0_1 0 1000000000 4).bind fun t433 => (if t433 = true then (some (decide (a0_0 > 0))) else (some false))
theorem zN.mono : ∀ a0 a1 k, LeO (zN.f k a0 a1) (zN.f (k + 1) a0 a1) := by
 intro a0 a1 k
 unfold zN.f
 repeat' first | with_reducible first | exact jK.mono _ _ _ _ _ _ | exact lr _ | exact ln _ | refine li ?_ ?_ | refine lb ?_ fun _ => ?_ | exact jK.mono _ _ _ _ _ _ | exact ln _ | refine li ?_ ?_ | refine lb ?_ fun _ => ?_
theorem zN.calls (k : Nat) (a0_0 : Int) (a0_1 : Int) (r : Bool) (w : World) (h : zN.f k a0_0 a0_1 = some r) :
  Calls Tryz.prog 27 #[.agg #[.int .i64 a0_0, .int .i64 a0_1]] w fun e w' => e = .returned (.bool r) ∧ Below w.heap.size w w' := by
 have hu33 := Tryz.underlying33
 have HB := zQ.mk (Below.refl w.heap.size w)
 have H := h
 unfold zN.f at H
 clear h
 replace H := Option.bind_eq_some_iff.mp H
 obtain ⟨t433, A20, H⟩ := H
 try dsimp only at H
 have A2 := zQ.mk A20
 clear A20
 by_cases c3 : t433 = true
 ·subst c3
  have H1 : (some (decide (a0_0 > 0))) = some r := by rw [if_pos rfl] at H; exact H
  clear H
  have H := H1
  clear H1
  obtain rfl := Option.some.inj H
  go_enter Tryz.func27, Tryz.ntmps27
  go_wp2_with (first | ((with_reducible refine gD 1 rfl ?_); refine bx w 1 #[.int .i64 a0_0, .int .i64 a0_1] 33 ?_; intro gb432 hg w4 hb BK432 GW432 GE432; clear HB; intro HB; clear hb hg; obtain ⟨hcz5_0, hcz5_1, hfz5_0, hfz5_1⟩ := cz2 BK432) | ((with_reducible refine gC 52 rfl ?_); refine gl_ 4 Tryz.func52 #[.agg #[.int .i64 a0_0, .int .i64 a0_1], .int .i64 0, .int .i64 1000000000, .int .i64 4] ?_; (with_reducible refine (jK.calls k a0_0 a0_1 0 1000000000 4 true _ A2.out).mono ?_); rintro e w6 ⟨rfl, hb⟩; refine ⟨_, rfl, ?_⟩; replace BK432 := bb BK432 hb; replace HB := hs w hb; (try clear hb); obtain ⟨hcz7_0, hcz7_1, hfz7_0, hfz7_1⟩ := cz2 BK432))
  go_ret
  exact ⟨by first | rfl | (simp [zw, zq] <;> rfl) | (simp [*, zw, zq] <;> rfl), (zb w)⟩
 ·replace c3 := Bool.eq_false_iff.mpr c3
  subst c3
  have H1 : (some false) = some r := by rw [if_neg (show ¬ (false = true) by decide)] at H; exact H
  clear H
  have H := H1
  clear H1
  obtain rfl := Option.some.inj H
  go_enter Tryz.func27, Tryz.ntmps27
  go_wp2_with (first | ((with_reducible refine gD 1 rfl ?_); refine bx w 1 #[.int .i64 a0_0, .int .i64 a0_1] 33 ?_; intro gb432 hg w8 hb BK432 GW432 GE432; clear HB; intro HB; clear hb hg; obtain ⟨hcz9_0, hcz9_1, hfz9_0, hfz9_1⟩ := cz2 BK432) | ((with_reducible refine gC 52 rfl ?_); refine gl_ 4 Tryz.func52 #[.agg #[.int .i64 a0_0, .int .i64 a0_1], .int .i64 0, .int .i64 1000000000, .int .i64 4] ?_; (with_reducible refine (jK.calls k a0_0 a0_1 0 1000000000 4 false _ A2.out).mono ?_); rintro e w10 ⟨rfl, hb⟩; refine ⟨_, rfl, ?_⟩; replace BK432 := bb BK432 hb; replace HB := hs w hb; (try clear hb)))
  go_ret
  exact ⟨by first | rfl | (simp [zw, zq] <;> rfl) | (simp [*, zw, zq] <;> rfl), (zb w)⟩
def jF.f (a0 : Int) (a1 : Int) (a2 : Int) : Option (Bool) := if a1 ≤ a0 then (some (decide (a0 ≤ a2))) else (some false)
theorem jF.calls (a0 : Int) (a1 : Int) (a2 : Int) (r : Bool) (w : World) (h : jF.f a0 a1 a2 = some r) :
  Calls Tryz.prog 28 #[.int .i64 a0, .int .i64 a1, .int .i64 a2] w fun e w' => e = .returned (.bool r) ∧ vR w w' := by
 have H := h
 unfold jF.f at H
 clear h
 by_cases c4 : a1 ≤ a0
 ·rw [if_pos c4] at H
  have c4b0 : decide (a1 ≤ a0) = true := decide_eq_true c4
  clear c4
  obtain rfl := Option.some.inj H
  go_enter Tryz.func28, Tryz.ntmps28
  go_wp2
  go_ret
  exact ⟨ar, dr⟩
 ·rw [if_neg c4] at H
  have c4b0 : decide (a1 ≤ a0) = false := decide_eq_false c4
  clear c4
  obtain rfl := Option.some.inj H
  go_enter Tryz.func28, Tryz.ntmps28
  go_wp2
  go_ret
  exact ⟨ar, dr⟩
def zL.l0 : Nat → Int → Int → Int → Option (Int)
 | 0, _, _, _ => none
 | k + 1, x3, x8, x9 => if x9 < x8 then (zL.l0 k (wrap64 (x3 * 10)) x8 (wrap64 (x9 + 1))) else (some x3)
def zL.f (k : Nat) (a0_0 : Int) (a0_1 : Int) : Option (Int) := zL.l0 k a0_0 (wrap64 (4 - a0_1)) 0
theorem zL.jD : ∀ k, (∀ y0 y1 y2, LeO (zL.l0 k y0 y1 y2) (zL.l0 (k + 1) y0 y1 y2))
 | 0 => fun _ _ _ r h => by simp [zL.l0] at h
 | k + 1 => by
  have ih0 := zL.jD k
  ·intro y0 y1 y2
   unfold zL.l0
   repeat' first | with_reducible first | exact ih0 _ _ _ | exact lr _ | exact ln _ | refine li ?_ ?_ | refine lb ?_ fun _ => ?_ | exact ih0 _ _ _ | exact ln _ | refine li ?_ ?_ | refine lb ?_ fun _ => ?_
theorem zL.mono : ∀ a0 a1 k, LeO (zL.f k a0 a1) (zL.f (k + 1) a0 a1) := by
 intro a0 a1 k
 have ih0 := zL.jD k
 unfold zL.f
 repeat' first | with_reducible first | exact ih0 _ _ _ | exact lr _ | exact ln _ | refine li ?_ ?_ | refine lb ?_ fun _ => ?_ | exact ih0 _ _ _ | exact ln _ | refine li ?_ ?_ | refine lb ?_ fun _ => ?_
theorem zL.calls (k : Nat) (a0_0 : Int) (a0_1 : Int) (r : Int) (w : World) (h : zL.f k a0_0 a0_1 = some r) :
  Calls Tryz.prog 39 #[.agg #[.int .i64 a0_0, .int .i64 a0_1]] w fun e w' => e = .returned (.int .i64 r) ∧ Below w.heap.size w w' := by
 have hu33 := Tryz.underlying33
 have HB := zQ.mk (Below.refl w.heap.size w)
 have H := h
 unfold zL.f at H
 clear h
 have H' := zQ.mk H
 clear H
 go_enter Tryz.func39, Tryz.ntmps39
 go_wp2_with (first | ((with_reducible refine gD 1 rfl ?_); refine bx w 1 #[.int .i64 a0_0, .int .i64 a0_1] 33 ?_; intro gb434 hg w2 hb BK434 GW434 GE434; clear HB; intro HB; clear hb hg; obtain ⟨hcz3_0, hcz3_1, hfz3_0, hfz3_1⟩ := cz2 BK434))
 try simp only [sq]
 go_loopg [3, 9] k (fun kq v3 v9 w' => ∃ (x3_1 : Int) (x9_1 : Int), v3 = .int .i64 x3_1 ∧ v9 = .int .i64 x9_1 ∧ zQ (zL.l0 kq x3_1 (wrap64 (4 - a0_1)) x9_1 = some r) ∧ zQ (kq ≤ k) ∧ zQ (w'.heap[gb434]? = some (.cells #[.int .i64 a0_0, .int .i64 a0_1] 33 (0, 0))) ∧ zQ (Below w.heap.size w w'))
 case atStart => exact ⟨(a0_0), (0), ar, ar, H', ⟨Nat.le_refl _⟩, ⟨(zk BK434)⟩, ⟨(zb w)⟩⟩
 case round =>
  clear H'
  try clear p2
  try clear c3
  try clear hcz3_0 hcz3_1 hfz3_0 hfz3_1
  obtain ⟨x3_1, x9_1, rfl, rfl, HA, HK1, BK434, HB⟩ := hrel
  cases gk with
  | zero => exact absurd HA.out (by simp [zL.l0])
  | succ k1 =>
   have H := HA.out
   clear HA
   simp only [zL.l0] at H
   by_cases c4 : x9_1 < (wrap64 (4 - a0_1))
   ·rw [if_pos c4] at H
    have c4b0 : decide (x9_1 < (wrap64 (4 - a0_1))) = true := decide_eq_true c4
    clear c4
    have H' := zQ.mk H
    clear H
    go_wp2
    go_roundg k1
    case measure => have := HK1.out; omega
    case rel => exact ⟨(wrap64 (x3_1 * 10)), (wrap64 (x9_1 + 1)), ar, ar, H', ⟨by have := HK1.out; omega⟩, ⟨(zk BK434)⟩, ⟨(zb w)⟩⟩
   ·rw [if_neg c4] at H
    have c4b0 : decide (x9_1 < (wrap64 (4 - a0_1))) = false := decide_eq_false c4
    clear c4
    obtain rfl := Option.some.inj H
    go_wp2
    go_ret
    exact ⟨by first | rfl | (simp [zw, zq] <;> rfl) | (simp [*, zw, zq] <;> rfl), (zb w)⟩
def qV.l0 : Nat → Int → Int → Option (Int × Int)
 | 0, _, _ => none
 | k + 1, x436000, x436001 => if x436001 > 0 then (if (Int.tmod x436000 10) = 0 then (qV.l0 k (wrap64 (Int.tdiv x436000 10)) (wrap64 (x436001 - 1))) else (some (x436000, x436001))) else (some (x436000, x436001))
def qV.f (k : Nat) (a0_0 : Int) (a0_1 : Int) : Option (Int × Int) := qV.l0 k a0_0 a0_1
theorem qV.jD : ∀ k, (∀ y0 y1, LeO (qV.l0 k y0 y1) (qV.l0 (k + 1) y0 y1))
 | 0 => fun _ _ r h => by simp [qV.l0] at h
 | k + 1 => by
  have ih0 := qV.jD k
  ·intro y0 y1
   unfold qV.l0
   repeat' first | with_reducible first | exact ih0 _ _ | exact lr _ | exact ln _ | refine li ?_ ?_ | refine lb ?_ fun _ => ?_ | exact ih0 _ _ | exact ln _ | refine li ?_ ?_ | refine lb ?_ fun _ => ?_
theorem qV.mono : ∀ a0 a1 k, LeO (qV.f k a0 a1) (qV.f (k + 1) a0 a1) := by
 intro a0 a1 k
 have ih0 := qV.jD k
 unfold qV.f
 repeat' first | with_reducible first | exact ih0 _ _ | exact lr _ | exact ln _ | refine li ?_ ?_ | refine lb ?_ fun _ => ?_ | exact ih0 _ _ | exact ln _ | refine li ?_ ?_ | refine lb ?_ fun _ => ?_
theorem qV.calls (k : Nat) (a0_0 : Int) (a0_1 : Int) (r1 : Int) (r2 : Int) (w : World) (h : qV.f k a0_0 a0_1 = some (r1, r2)) :
  Calls Tryz.prog 42 #[.agg #[.int .i64 a0_0, .int .i64 a0_1]] w fun e w' => e = .returned (.agg #[.int .i64 r1, .int .i64 r2]) ∧ Below w.heap.size w w' := by
 have hu33 := Tryz.underlying33
 have HB := zQ.mk (Below.refl w.heap.size w)
 have H := h
 unfold qV.f at H
 clear h
 have H' := zQ.mk H
 clear H
 go_enter Tryz.func42, Tryz.ntmps42
 go_wp2_with (first | ((with_reducible refine gD 1 rfl ?_); refine bx w 1 #[.int .i64 a0_0, .int .i64 a0_1] 33 ?_; intro gb435 hg w2 hb BK435 GW435 GE435; clear HB; intro HB; clear hb hg) | ((with_reducible refine gD 2 rfl ?_); refine bx w 2 #[.int .i64 0, .int .i64 0] 33 ?_; intro gb436 hg w3 hb BK436 GW436 GE436; clear HB; intro HB; have NB435_436 := nbl BK435 hg; have NB436_435 := nbr BK435 hg; replace BK435 := bb BK435 hb; clear hb hg))
 try simp only [sq]
 go_loopg [] k (fun kq w' => ∃ (x436000_1 : Int) (x436001_1 : Int), zQ (qV.l0 kq x436000_1 x436001_1 = some (r1, r2)) ∧ zQ (kq ≤ k) ∧ zQ (w'.heap[gb435]? = some (.cells #[.int .i64 x436000_1, .int .i64 x436001_1] 33 (0, 0))) ∧ zQ (w'.heap[gb436]? = some (.cells #[.int .i64 0, .int .i64 0] 33 (0, 0))) ∧ zQ (Below w.heap.size w w'))
 case atStart => exact ⟨(a0_0), (a0_1), H', ⟨Nat.le_refl _⟩, ⟨(zk BK435)⟩, ⟨(zk BK436)⟩, ⟨(zb w)⟩⟩
 case round =>
  clear H'
  try clear p2
  obtain ⟨x436000_1, x436001_1, HA, HK1, BK435, BK436, HB⟩ := hrel
  cases gk with
  | zero => exact absurd HA.out (by simp [qV.l0])
  | succ k1 =>
   have H := HA.out
   clear HA
   simp only [qV.l0] at H
   by_cases c4 : x436001_1 > 0
   ·rw [if_pos c4] at H
    have c4b0 : decide (0 < x436001_1) = true := decide_eq_true c4
    clear c4
    by_cases c5 : (Int.tmod x436000_1 10) = 0
    ·rw [if_pos c5] at H
     have c5b0 : ((Int.tmod x436000_1 10) == 0) = true := beq_iff_eq.mpr c5
     have c5b1 : ((Int.tmod x436000_1 10) != 0) = false := bne_eq_false_iff_eq.mpr c5
     clear c5
     have H' := zQ.mk H
     clear H
     have hnb6 := NB435_436.out
     have hnc6 := NB436_435.out
     obtain ⟨hcz7_0, hcz7_1, hfz7_0, hfz7_1⟩ := cz2 BK435
     go_wp2
     go_roundg k1
     case measure => have := HK1.out; omega
     case rel => exact ⟨(wrap64 (Int.tdiv x436000_1 10)), (wrap64 (x436001_1 - 1)), H', ⟨by have := HK1.out; omega⟩, ⟨by (with_reducible repeat (first | refine zV ?_ _ | refine zW ?_ | refine zJ ?_ _)); refine zU (cs := #[.int .i64 (wrap64 (Int.tdiv x436000_1 10)), .int .i64 x436001_1]) ?_ 1 _ rfl; (with_reducible repeat (first | refine zV ?_ _ | refine zW ?_ | refine zJ ?_ _)); refine zU (cs := #[.int .i64 x436000_1, .int .i64 x436001_1]) ?_ 0 _ rfl; exact zk BK435⟩, ⟨by (with_reducible repeat (first | refine zV ?_ _ | refine zW ?_ | refine zJ ?_ _)); refine zP ?_ NB436_435.out _; (with_reducible repeat (first | refine zV ?_ _ | refine zW ?_ | refine zJ ?_ _)); refine zP ?_ NB436_435.out _; exact zk BK436⟩, ⟨(zb w)⟩⟩
    ·rw [if_neg c5] at H
     have c5b0 : ((Int.tmod x436000_1 10) == 0) = false := beq_eq_false_iff_ne.mpr c5
     have c5b1 : ((Int.tmod x436000_1 10) != 0) = true := bne_iff_ne.mpr c5
     simp only [Option.some.injEq, Prod.mk.injEq] at H
     obtain ⟨rfl, rfl⟩ := H
     have hnb8 := NB435_436.out
     have hnc8 := NB436_435.out
     obtain ⟨hcz9_0, hcz9_1, hfz9_0, hfz9_1⟩ := cz2 BK435
     obtain ⟨hcz10_0, hcz10_1, hfz10_0, hfz10_1⟩ := cz2 BK436
     go_wp2
     refine bodyPost_ret (results_cell_row rfl _ _ gb436 33 #[.int .i64 x436000_1, .int .i64 x436001_1] (0, 0) _ rfl (by (with_reducible repeat (first | refine zV ?_ _ | refine zW ?_ | refine zJ ?_ _)); refine zU (cs := #[.int .i64 x436000_1, .int .i64 0]) ?_ 1 _ rfl; (with_reducible repeat (first | refine zV ?_ _ | refine zW ?_ | refine zJ ?_ _)); refine zU (cs := #[.int .i64 0, .int .i64 0]) ?_ 0 _ rfl; exact zk BK436) Tryz.underlying33 rfl (by kernel_rfl)) rfl ?_
     exact ⟨by first | rfl | (simp [zw, zq] <;> rfl) | (simp [*, zw, zq] <;> rfl), (zb w)⟩
   ·rw [if_neg c4] at H
    have c4b0 : decide (0 < x436001_1) = false := decide_eq_false c4
    clear c4
    simp only [Option.some.injEq, Prod.mk.injEq] at H
    obtain ⟨rfl, rfl⟩ := H
    have hnb11 := NB435_436.out
    have hnc11 := NB436_435.out
    obtain ⟨hcz12_0, hcz12_1, hfz12_0, hfz12_1⟩ := cz2 BK435
    obtain ⟨hcz13_0, hcz13_1, hfz13_0, hfz13_1⟩ := cz2 BK436
    go_wp2
    refine bodyPost_ret (results_cell_row rfl _ _ gb436 33 #[.int .i64 x436000_1, .int .i64 x436001_1] (0, 0) _ rfl (by (with_reducible repeat (first | refine zV ?_ _ | refine zW ?_ | refine zJ ?_ _)); refine zU (cs := #[.int .i64 x436000_1, .int .i64 0]) ?_ 1 _ rfl; (with_reducible repeat (first | refine zV ?_ _ | refine zW ?_ | refine zJ ?_ _)); refine zU (cs := #[.int .i64 0, .int .i64 0]) ?_ 0 _ rfl; exact zk BK436) Tryz.underlying33 rfl (by kernel_rfl)) rfl ?_
    exact ⟨by first | rfl | (simp [zw, zq] <;> rfl) | (simp [*, zw, zq] <;> rfl), (zb w)⟩
def qB.f (k : Nat) (a0 : Int) : Option (Int × Int) := (qV.f k a0 4).bind fun bt438 => (some (bt438.1, bt438.2))
theorem qB.mono : ∀ a0 k, LeO (qB.f k a0) (qB.f (k + 1) a0) := by
 intro a0 k
 unfold qB.f
 repeat' first | with_reducible first | exact qV.mono _ _ _ | exact lr _ | exact ln _ | refine li ?_ ?_ | refine lb ?_ fun _ => ?_ | exact qV.mono _ _ _ | exact ln _ | refine li ?_ ?_ | refine lb ?_ fun _ => ?_
theorem qB.calls (k : Nat) (a0 : Int) (r1 : Int) (r2 : Int) (w : World) (h : qB.f k a0 = some (r1, r2)) :
  Calls Tryz.prog 21 #[.int .i64 a0] w fun e w' => e = .returned (.agg #[.int .i64 r1, .int .i64 r2]) ∧ Below w.heap.size w w' := by
 have hu33 := Tryz.underlying33
 have HB := zQ.mk (Below.refl w.heap.size w)
 have H := h
 unfold qB.f at H
 clear h
 replace H := Option.bind_eq_some_iff.mp H
 obtain ⟨⟨t438, t439⟩, A20, H⟩ := H
 try dsimp only at H
 have A2 := zQ.mk A20
 clear A20
 simp only [Option.some.injEq, Prod.mk.injEq] at H
 obtain ⟨rfl, rfl⟩ := H
 go_enter Tryz.func21, Tryz.ntmps21
 go_wp2_with (first | ((with_reducible refine gD 2 rfl ?_); refine bx w 2 #[.int .i64 0, .int .i64 0] 33 ?_; intro gb437 hg w3 hb BK437 GW437 GE437; clear HB; intro HB; clear hb hg) | ((with_reducible refine gC 42 rfl ?_); refine gl_ 5 Tryz.func42 #[.agg #[.int .i64 a0, .int .i64 4]] ?_; (with_reducible refine (qV.calls k a0 4 t438 t439 _ A2.out).mono ?_); rintro e w4 ⟨rfl, hb⟩; refine ⟨_, rfl, ?_⟩; replace BK437 := bb BK437 hb; replace HB := hs w hb; (try clear hb); obtain ⟨hcz5_0, hcz5_1, hfz5_0, hfz5_1⟩ := cz2 BK437))
 refine bodyPost_ret (results_cell_row rfl _ _ gb437 33 #[.int .i64 t438, .int .i64 t439] (0, 0) _ rfl (by (with_reducible repeat (first | refine zV ?_ _ | refine zW ?_ | refine zJ ?_ _)); refine zU (cs := #[.int .i64 t438, .int .i64 0]) ?_ 1 _ rfl; (with_reducible repeat (first | refine zV ?_ _ | refine zW ?_ | refine zJ ?_ _)); refine zU (cs := #[.int .i64 0, .int .i64 0]) ?_ 0 _ rfl; exact zk BK437) Tryz.underlying33 rfl (by kernel_rfl)) rfl ?_
 exact ⟨by first | rfl | (simp [zw, zq] <;> rfl) | (simp [*, zw, zq] <;> rfl), (zb w)⟩
mutual
def zK.l0 : Nat → List (S72) → List (S72) → Int → Int → Option (Int)
 | 0, _, _, _, _ => none
 | k + 1, x0, x10, x11, x12 => if x12 < x11 then (if 0 ≤ x12 then (if x12 < (x10.length : Int) then ((jJ.f ((zY x10 x12).f0)).bind fun t442 => (if t442 = true then (if x12 > 0 then (if 0 ≤ (wrap64 (x12 - 1)) then (if (wrap64 (x12 - 1)) < (x0.length : Int) then (zK.j1 k x0 x10 x11 x12 (decide (((zY x10 x12).f0) < ((zY x0 (wrap64 (x12 - 1))).f0))) ((zY x10 x12).f0) ((zY x10 x12).f1.f0) ((zY x10 x12).f1.f1) ((zY x10 x12).f2)) else (none)) else (none)) else (zK.j1 k x0 x10 x11 x12 false ((zY x10 x12).f0) ((zY x10 x12).f1.f0) ((zY x10 x12).f1.f1) ((zY x10 x12).f2))) else (some 1))) else (none)) else (none)) else (some 0)
def zK.j1 : Nat → List (S72) → List (S72) → Int → Int → Bool → Int → Int → Int → List ByteArray → Option (Int)
 | 0, _, _, _, _, _, _, _, _, _ => none
 | k + 1, x0, x10, x11, x12, x22, x442000, x442001, x442002, x442003 => if x22 = true then (some 8) else ((zN.f k x442001 x442002).bind fun t444 => (if t444 = true then (if (x442003.length : Int) > 100 then (some 2) else (zK.l1 k x0 x10 x11 x12 x442003 (x442003.length : Int) 0 x442000 x442001 x442002 x442003)) else (some 1)))
def zK.l1 : Nat → List (S72) → List (S72) → Int → Int → List ByteArray → Int → Int → Int → Int → Int → List ByteArray → Option (Int)
 | 0, _, _, _, _, _, _, _, _, _, _, _ => none
 | k + 1, x0, x10, x11, x12, x47, x48, x49, x442000, x442001, x442002, x442003 => if x49 < x48 then (if 0 ≤ x49 then (if x49 < (x47.length : Int) then ((zS.f k (rdOf ByteArray.empty x47 x49)).bind fun t446 => (if t446 = true then (if x49 ≤ (x442003.length : Int) then ((zy.f k (x442003.take (x49 : Int).toNat) (rdOf ByteArray.empty x47 x49)).bind fun t448 => (if t448 = true then (some 7) else (zK.l1 k x0 x10 x11 x12 x47 x48 (wrap64 (x49 + 1)) x442000 x442001 x442002 x442003))) else (none)) else (some 5))) else (none)) else (none)) else (zK.l0 k x0 x10 x11 (wrap64 (x12 + 1)))
end
def zK.f (k : Nat) (l0 : List (S72)) : Option (Int) := if (l0.length : Int) > 500 then (some 2) else (zK.l0 k l0 l0 (l0.length : Int) 0)
theorem zK.jD : ∀ k, (∀ y0 y1 y2 y3, LeO (zK.l0 k y0 y1 y2 y3) (zK.l0 (k + 1) y0 y1 y2 y3)) ∧ (∀ y0 y1 y2 y3 y4 y5 y6 y7 y8, LeO (zK.j1 k y0 y1 y2 y3 y4 y5 y6 y7 y8) (zK.j1 (k + 1) y0 y1 y2 y3 y4 y5 y6 y7 y8)) ∧ (∀ y0 y1 y2 y3 y4 y5 y6 y7 y8 y9 y10, LeO (zK.l1 k y0 y1 y2 y3 y4 y5 y6 y7 y8 y9 y10) (zK.l1 (k + 1) y0 y1 y2 y3 y4 y5 y6 y7 y8 y9 y10))
 | 0 => ⟨fun _ _ _ _ r h => by simp [zK.l0] at h, fun _ _ _ _ _ _ _ _ _ r h => by simp [zK.j1] at h, fun _ _ _ _ _ _ _ _ _ _ _ r h => by simp [zK.l1] at h⟩
 | k + 1 => by
  obtain ⟨ih0, ih1, ih2⟩ := zK.jD k
  refine ⟨?_, ?_, ?_⟩
  ·intro y0 y1 y2 y3
   unfold zK.l0
   repeat' first | with_reducible first | exact ih0 _ _ _ _ | exact ih1 _ _ _ _ _ _ _ _ _ | exact ih2 _ _ _ _ _ _ _ _ _ _ _ | exact zN.mono _ _ _ | exact zS.mono _ _ | exact zy.mono _ _ _ | exact lr _ | exact ln _ | refine li ?_ ?_ | refine lb ?_ fun _ => ?_ | exact ih0 _ _ _ _ | exact ih1 _ _ _ _ _ _ _ _ _ | exact ih2 _ _ _ _ _ _ _ _ _ _ _ | exact zN.mono _ _ _ | exact zS.mono _ _ | exact zy.mono _ _ _ | exact ln _ | refine li ?_ ?_ | refine lb ?_ fun _ => ?_
  ·intro y0 y1 y2 y3 y4 y5 y6 y7 y8
   unfold zK.j1
   repeat' first | with_reducible first | exact ih0 _ _ _ _ | exact ih1 _ _ _ _ _ _ _ _ _ | exact ih2 _ _ _ _ _ _ _ _ _ _ _ | exact zN.mono _ _ _ | exact zS.mono _ _ | exact zy.mono _ _ _ | exact lr _ | exact ln _ | refine li ?_ ?_ | refine lb ?_ fun _ => ?_ | exact ih0 _ _ _ _ | exact ih1 _ _ _ _ _ _ _ _ _ | exact ih2 _ _ _ _ _ _ _ _ _ _ _ | exact zN.mono _ _ _ | exact zS.mono _ _ | exact zy.mono _ _ _ | exact ln _ | refine li ?_ ?_ | refine lb ?_ fun _ => ?_
  ·intro y0 y1 y2 y3 y4 y5 y6 y7 y8 y9 y10
   unfold zK.l1
   repeat' first | with_reducible first | exact ih0 _ _ _ _ | exact ih1 _ _ _ _ _ _ _ _ _ | exact ih2 _ _ _ _ _ _ _ _ _ _ _ | exact zN.mono _ _ _ | exact zS.mono _ _ | exact zy.mono _ _ _ | exact lr _ | exact ln _ | refine li ?_ ?_ | refine lb ?_ fun _ => ?_ | exact ih0 _ _ _ _ | exact ih1 _ _ _ _ _ _ _ _ _ | exact ih2 _ _ _ _ _ _ _ _ _ _ _ | exact zN.mono _ _ _ | exact zS.mono _ _ | exact zy.mono _ _ _ | exact ln _ | refine li ?_ ?_ | refine lb ?_ fun _ => ?_
theorem zK.mono : ∀ a0 k, LeO (zK.f k a0) (zK.f (k + 1) a0) := by
 intro a0 k
 obtain ⟨ih0, ih1, ih2⟩ := zK.jD k
 unfold zK.f
 repeat' first | with_reducible first | exact ih0 _ _ _ _ | exact ih1 _ _ _ _ _ _ _ _ _ | exact ih2 _ _ _ _ _ _ _ _ _ _ _ | exact zN.mono _ _ _ | exact zS.mono _ _ | exact zy.mono _ _ _ | exact lr _ | exact ln _ | refine li ?_ ?_ | refine lb ?_ fun _ => ?_ | exact ih0 _ _ _ _ | exact ih1 _ _ _ _ _ _ _ _ _ | exact ih2 _ _ _ _ _ _ _ _ _ _ _ | exact zN.mono _ _ _ | exact zS.mono _ _ | exact zy.mono _ _ _ | exact ln _ | refine li ?_ ?_ | refine lb ?_ fun _ => ?_
theorem zK.calls (k : Nat) (A0 : Option Addr) (c0 : Nat) (l0 : List (S72)) (r : Int) (w : World) (hr0 : Kd.C k72 w A0 l0.length l0) (hc0 : l0.length ≤ c0) (h : zK.f k l0 = some r) :
  Calls Tryz.prog 9 #[.slice A0 l0.length c0] w fun e w' => e = .returned (.int .i64 r) ∧ Below w.heap.size w w' := by
 have hu72 := Tryz.underlying72
 have hu33 := Tryz.underlying33
 have HR0 := zQ.mk hr0
 have HC0 := zQ.mk hc0
 clear hr0 hc0
 have HB := zQ.mk (Below.refl w.heap.size w)
 have H := h
 unfold zK.f at H
 clear h
 by_cases c2 : (l0.length : Int) > 500
 ·rw [if_pos c2] at H
  have c2b0 : decide (500 < (l0.length : Int)) = true := decide_eq_true c2
  have c2b1 : decide (500 < l0.length) = true := decide_eq_true (by omega)
  clear c2
  obtain rfl := Option.some.inj H
  go_enter Tryz.func9, Tryz.ntmps9
  go_wp2
  repeat (go_quiet (fail); try go_wp2)
  go_ret
  exact ⟨by first | rfl | (simp [zw, zq] <;> rfl) | (simp [*, zw, zq] <;> rfl), (zb w)⟩
 ·rw [if_neg c2] at H
  have c2b0 : decide (500 < (l0.length : Int)) = false := decide_eq_false c2
  have c2b1 : decide (500 < l0.length) = false := decide_eq_false (by omega)
  clear c2
  have H' := zQ.mk H
  clear H
  go_enter Tryz.func9, Tryz.ntmps9
  go_wp2
  repeat (go_quiet (fail); try go_wp2)
  try simp only [sq]
  go_loopg [12] k (fun kq v12 w' => ∃ (x12_1 : Int), v12 = .int .i64 x12_1 ∧ zQ (zK.l0 kq l0 l0 (l0.length : Int) x12_1 = some r) ∧ zQ (kq ≤ k) ∧ zQ (Below w.heap.size w w'))
  case atStart => exact ⟨(0), ar, H', ⟨Nat.le_refl _⟩, ⟨(zb w)⟩⟩
  case round =>
   clear H'
   try clear c2
   try clear c2b0
   try clear c2b1
   try clear p2
   obtain ⟨x12_1, rfl, HA, HK1, HB⟩ := hrel
   cases gk with
   | zero => exact absurd HA.out (by simp [zK.l0])
   | succ k1 =>
    have H := HA.out
    clear HA
    simp only [zK.l0] at H
    by_cases c3 : x12_1 < (l0.length : Int)
    ·rw [if_pos c3] at H
     have c3b0 : decide (x12_1 < (l0.length : Int)) = true := decide_eq_true c3
     clear c3
     by_cases c4 : 0 ≤ x12_1
     ·rw [if_pos c4] at H
      have c4b0 : decide (0 ≤ x12_1) = true := decide_eq_true c4
      clear c4
      by_cases c5 : x12_1 < (l0.length : Int)
      ·rw [if_pos c5] at H
       have c5b0 : decide (x12_1 < (l0.length : Int)) = true := decide_eq_true c5
       clear c5
       replace H := Option.bind_eq_some_iff.mp H
       obtain ⟨t442, A60, H⟩ := H
       try dsimp only at H
       have A6 := zQ.mk A60
       clear A60
       by_cases c7 : t442 = true
       ·subst c7
        have H1 : (if x12_1 > 0 then (if 0 ≤ (wrap64 (x12_1 - 1)) then (if (wrap64 (x12_1 - 1)) < (l0.length : Int) then (zK.j1 k1 l0 l0 (l0.length : Int) x12_1 (decide (((zY l0 x12_1).f0) < ((zY l0 (wrap64 (x12_1 - 1))).f0))) ((zY l0 x12_1).f0) ((zY l0 x12_1).f1.f0) ((zY l0 x12_1).f1.f1) ((zY l0 x12_1).f2)) else (none)) else (none)) else (zK.j1 k1 l0 l0 (l0.length : Int) x12_1 false ((zY l0 x12_1).f0) ((zY l0 x12_1).f1.f0) ((zY l0 x12_1).f1.f1) ((zY l0 x12_1).f2))) = some r := by rw [if_pos rfl] at H; exact H
        clear H
        have H := H1
        clear H1
        have HC8 := zQ.mk H
        clear H
        have p440 : 0 ≤ (x12_1 : Int) := of_decide_eq_true (by assumption)
        have q440 : x12_1 < (l0.length : Int) := of_decide_eq_true (by assumption)
        obtain ⟨ad440, A440_3, c440_3, e440, hx440_0, hx440_1, hx440_2, hx440_3, hl440_3, hi440_3⟩ := at_T72 HR0.out x12_1 p440 q440
        cases e440
        replace hx440_0 := hz HB hx440_0
        replace hx440_1 := hz HB hx440_1
        replace hx440_2 := hz HB hx440_2
        replace hx440_3 := hz HB hx440_3
        have HR440_3 := zQ.mk hi440_3
        have HC440_3 := zQ.mk hl440_3
        clear hi440_3 hl440_3
        replace p440 := eq_true p440
        replace q440 := eq_true q440
        go_upto_region 8 with (first | ((with_reducible refine gD 4 rfl ?_); refine bx w 4 #[.int .i64 0, .int .i64 0, .int .i64 0, .slice none 0 0] 72 ?_; intro gb441 hg w9 hb BK441 GW441 GE441; clear HB; intro HB; clear hb hg; obtain ⟨hcz10_0, hcz10_1, hcz10_2, hcz10_3, hfz10_0, hfz10_1, hfz10_2, hfz10_3⟩ := cz4 BK441) | (go_at_call 26; (with_reducible refine (jJ.calls ((zY l0 x12_1).f0) true _ A6.out).mono ?_); rintro e w' ⟨rfl, ⟨nd, rfl⟩⟩; (try first | exact ⟨rfl, _, World.drewN_drewN _ _ _⟩ | exact ⟨rfl, _, Eq.trans (World.drewN_drewN _ _ _) (congrArg (World.drewN _) (Nat.add_assoc _ _ _))⟩)))
        repeat (go_quiet (first | ((with_reducible refine gD 4 rfl ?_); refine bx w 4 #[.int .i64 0, .int .i64 0, .int .i64 0, .slice none 0 0] 72 ?_; intro gb441 hg w9 hb BK441 GW441 GE441; clear HB; intro HB; clear hb hg; obtain ⟨hcz10_0, hcz10_1, hcz10_2, hcz10_3, hfz10_0, hfz10_1, hfz10_2, hfz10_3⟩ := cz4 BK441) | (go_at_call 26; (with_reducible refine (jJ.calls ((zY l0 x12_1).f0) true _ A6.out).mono ?_); rintro e w' ⟨rfl, ⟨nd, rfl⟩⟩; (try first | exact ⟨rfl, _, World.drewN_drewN _ _ _⟩ | exact ⟨rfl, _, Eq.trans (World.drewN_drewN _ _ _) (congrArg (World.drewN _) (Nat.add_assoc _ _ _))⟩))); go_upto_region 8 with (first | ((with_reducible refine gD 4 rfl ?_); refine bx w 4 #[.int .i64 0, .int .i64 0, .int .i64 0, .slice none 0 0] 72 ?_; intro gb441 hg w9 hb BK441 GW441 GE441; clear HB; intro HB; clear hb hg; obtain ⟨hcz10_0, hcz10_1, hcz10_2, hcz10_3, hfz10_0, hfz10_1, hfz10_2, hfz10_3⟩ := cz4 BK441) | (go_at_call 26; (with_reducible refine (jJ.calls ((zY l0 x12_1).f0) true _ A6.out).mono ?_); rintro e w' ⟨rfl, ⟨nd, rfl⟩⟩; (try first | exact ⟨rfl, _, World.drewN_drewN _ _ _⟩ | exact ⟨rfl, _, Eq.trans (World.drewN_drewN _ _ _) (congrArg (World.drewN _) (Nat.add_assoc _ _ _))⟩))))
        (try simp only [sq])
        go_cut [22] (fun v22 wc => ∃ (kq : Nat) (x22_7 : Bool), v22 = .bool x22_7 ∧ zQ (zK.j1 kq l0 l0 (l0.length : Int) x12_1 x22_7 ((zY l0 x12_1).f0) ((zY l0 x12_1).f1.f0) ((zY l0 x12_1).f1.f1) ((zY l0 x12_1).f2) = some r) ∧ zQ (kq ≤ k1) ∧ zQ (wc.heap[gb441]? = some (.cells #[.int .i64 ((zY l0 x12_1).f0), .int .i64 ((zY l0 x12_1).f1.f0), .int .i64 ((zY l0 x12_1).f1.f1), (.slice A440_3 ((zY l0 x12_1).f2).length c440_3)] 72 (0, 0))) ∧ zQ (Below w.heap.size w wc))
        case first =>
         have H := HC8.out
         clear HC8
         by_cases c11 : x12_1 > 0
         ·rw [if_pos c11] at H
          have c11b0 : decide (0 < x12_1) = true := decide_eq_true c11
          clear c11
          (first | rw [c11b0] | (simp only [i64_w, i32_w]; rw [c11b0]) | skip)
          obtain ⟨ji12, hji12⟩ : ∃ j_ : Int, (wrap64 (x12_1 - 1)) = j_ := ⟨_, rfl⟩
          replace H : (if 0 ≤ (ji12) then (if (ji12) < (l0.length : Int) then (zK.j1 k1 l0 l0 (l0.length : Int) x12_1 (decide (((zY l0 x12_1).f0) < ((zY l0 (ji12)).f0))) ((zY l0 x12_1).f0) ((zY l0 x12_1).f1.f0) ((zY l0 x12_1).f1.f1) ((zY l0 x12_1).f2)) else (none)) else (none)) = some r := by first | (rw [hji12] at H; exact H) | (simp only [hji12] at H ⊢; exact H)
          have hji12w : (IntKind.i64.wrap (x12_1 - 1)) = ji12 := (i64_w _).trans hji12
          by_cases c13 : 0 ≤ (ji12)
          ·rw [if_pos c13] at H
           have c13b0 : decide (0 ≤ (ji12)) = true := decide_eq_true c13
           clear c13
           by_cases c14 : (ji12) < (l0.length : Int)
           ·rw [if_pos c14] at H
            have c14b0 : decide ((ji12) < (l0.length : Int)) = true := decide_eq_true c14
            clear c14
            have H' := zQ.mk H
            clear H
            obtain ⟨hcz15_0, hcz15_1, hcz15_2, hcz15_3, hfz15_0, hfz15_1, hfz15_2, hfz15_3⟩ := cz4 BK441
            have p443 : 0 ≤ ((ji12) : Int) := of_decide_eq_true (by assumption)
            have q443 : (ji12) < (l0.length : Int) := of_decide_eq_true (by assumption)
            obtain ⟨ad443, A443_3, c443_3, e443, hx443_0, hx443_1, hx443_2, hx443_3, hl443_3, hi443_3⟩ := at_T72 HR0.out (ji12) p443 q443
            obtain rfl : ad440 = ad443 := (by injection e443)
            have hn443_0 : ad440.block ≠ gb441 := Nat.ne_of_lt (Nat.lt_of_lt_of_le (by have := World.block_lt_of_cell? _ _ hx443_0; first | rwa [add_block] at this | exact this) GW441.out)
            have hn443_1 : ad440.block ≠ gb441 := Nat.ne_of_lt (Nat.lt_of_lt_of_le (by have := World.block_lt_of_cell? _ _ hx443_0; first | rwa [add_block] at this | exact this) GW441.out)
            have hn443_2 : ad440.block ≠ gb441 := Nat.ne_of_lt (Nat.lt_of_lt_of_le (by have := World.block_lt_of_cell? _ _ hx443_0; first | rwa [add_block] at this | exact this) GW441.out)
            have hn443_3 : ad440.block ≠ gb441 := Nat.ne_of_lt (Nat.lt_of_lt_of_le (by have := World.block_lt_of_cell? _ _ hx443_0; first | rwa [add_block] at this | exact this) GW441.out)
            replace hx443_0 := hz HB hx443_0
            replace hx443_1 := hz HB hx443_1
            replace hx443_2 := hz HB hx443_2
            replace hx443_3 := hz HB hx443_3
            have HR443_3 := zQ.mk hi443_3
            have HC443_3 := zQ.mk hl443_3
            clear hi443_3 hl443_3
            replace hx443_0 := (cell_far (p := ⟨gb441, 0, none⟩) (by first | (rw [add_block]; exact hn443_0) | (show (Addr.add _ _).block ≠ _; rw [add_block]; exact hn443_0) | exact hn443_0) (.int .i64 ((zY l0 x12_1).f0))).trans hx443_0
            replace hx443_1 := (cell_far (p := ⟨gb441, 0, none⟩) (by first | (rw [add_block]; exact hn443_0) | (show (Addr.add _ _).block ≠ _; rw [add_block]; exact hn443_0) | exact hn443_0) (.int .i64 ((zY l0 x12_1).f0))).trans hx443_1
            replace hx443_2 := (cell_far (p := ⟨gb441, 0, none⟩) (by first | (rw [add_block]; exact hn443_0) | (show (Addr.add _ _).block ≠ _; rw [add_block]; exact hn443_0) | exact hn443_0) (.int .i64 ((zY l0 x12_1).f0))).trans hx443_2
            replace hx443_3 := (cell_far (p := ⟨gb441, 0, none⟩) (by first | (rw [add_block]; exact hn443_0) | (show (Addr.add _ _).block ≠ _; rw [add_block]; exact hn443_0) | exact hn443_0) (.int .i64 ((zY l0 x12_1).f0))).trans hx443_3
            replace hx443_0 := (cell_far (p := ⟨gb441, 1, none⟩) (by first | (rw [add_block]; exact hn443_1) | (show (Addr.add _ _).block ≠ _; rw [add_block]; exact hn443_1) | exact hn443_1) (.int .i64 ((zY l0 x12_1).f1.f0))).trans hx443_0
            replace hx443_1 := (cell_far (p := ⟨gb441, 1, none⟩) (by first | (rw [add_block]; exact hn443_1) | (show (Addr.add _ _).block ≠ _; rw [add_block]; exact hn443_1) | exact hn443_1) (.int .i64 ((zY l0 x12_1).f1.f0))).trans hx443_1
            replace hx443_2 := (cell_far (p := ⟨gb441, 1, none⟩) (by first | (rw [add_block]; exact hn443_1) | (show (Addr.add _ _).block ≠ _; rw [add_block]; exact hn443_1) | exact hn443_1) (.int .i64 ((zY l0 x12_1).f1.f0))).trans hx443_2
            replace hx443_3 := (cell_far (p := ⟨gb441, 1, none⟩) (by first | (rw [add_block]; exact hn443_1) | (show (Addr.add _ _).block ≠ _; rw [add_block]; exact hn443_1) | exact hn443_1) (.int .i64 ((zY l0 x12_1).f1.f0))).trans hx443_3
            replace hx443_0 := (cell_far (p := ⟨gb441, 2, none⟩) (by first | (rw [add_block]; exact hn443_2) | (show (Addr.add _ _).block ≠ _; rw [add_block]; exact hn443_2) | exact hn443_2) (.int .i64 ((zY l0 x12_1).f1.f1))).trans hx443_0
            replace hx443_1 := (cell_far (p := ⟨gb441, 2, none⟩) (by first | (rw [add_block]; exact hn443_2) | (show (Addr.add _ _).block ≠ _; rw [add_block]; exact hn443_2) | exact hn443_2) (.int .i64 ((zY l0 x12_1).f1.f1))).trans hx443_1
            replace hx443_2 := (cell_far (p := ⟨gb441, 2, none⟩) (by first | (rw [add_block]; exact hn443_2) | (show (Addr.add _ _).block ≠ _; rw [add_block]; exact hn443_2) | exact hn443_2) (.int .i64 ((zY l0 x12_1).f1.f1))).trans hx443_2
            replace hx443_3 := (cell_far (p := ⟨gb441, 2, none⟩) (by first | (rw [add_block]; exact hn443_2) | (show (Addr.add _ _).block ≠ _; rw [add_block]; exact hn443_2) | exact hn443_2) (.int .i64 ((zY l0 x12_1).f1.f1))).trans hx443_3
            replace hx443_0 := (cell_far (p := ⟨gb441, 3, none⟩) (by first | (rw [add_block]; exact hn443_3) | (show (Addr.add _ _).block ≠ _; rw [add_block]; exact hn443_3) | exact hn443_3) (.slice A440_3 ((zY l0 x12_1).f2).length c440_3)).trans hx443_0
            replace hx443_1 := (cell_far (p := ⟨gb441, 3, none⟩) (by first | (rw [add_block]; exact hn443_3) | (show (Addr.add _ _).block ≠ _; rw [add_block]; exact hn443_3) | exact hn443_3) (.slice A440_3 ((zY l0 x12_1).f2).length c440_3)).trans hx443_1
            replace hx443_2 := (cell_far (p := ⟨gb441, 3, none⟩) (by first | (rw [add_block]; exact hn443_3) | (show (Addr.add _ _).block ≠ _; rw [add_block]; exact hn443_3) | exact hn443_3) (.slice A440_3 ((zY l0 x12_1).f2).length c440_3)).trans hx443_2
            replace hx443_3 := (cell_far (p := ⟨gb441, 3, none⟩) (by first | (rw [add_block]; exact hn443_3) | (show (Addr.add _ _).block ≠ _; rw [add_block]; exact hn443_3) | exact hn443_3) (.slice A440_3 ((zY l0 x12_1).f2).length c440_3)).trans hx443_3
            (try have hy443_0 := fun (n_ : Nat) => (show ((((((w9.drewN n_).setCell ⟨gb441, 0, none⟩ (.int .i64 ((zY l0 x12_1).f0))).setCell ⟨gb441, 1, none⟩ (.int .i64 ((zY l0 x12_1).f1.f0))).setCell ⟨gb441, 2, none⟩ (.int .i64 ((zY l0 x12_1).f1.f1))).setCell ⟨gb441, 3, none⟩ (.slice A440_3 ((zY l0 x12_1).f2).length c440_3))).cell? _ = some _ from hx443_0))
            (try have hy443_1 := fun (n_ : Nat) => (show ((((((w9.drewN n_).setCell ⟨gb441, 0, none⟩ (.int .i64 ((zY l0 x12_1).f0))).setCell ⟨gb441, 1, none⟩ (.int .i64 ((zY l0 x12_1).f1.f0))).setCell ⟨gb441, 2, none⟩ (.int .i64 ((zY l0 x12_1).f1.f1))).setCell ⟨gb441, 3, none⟩ (.slice A440_3 ((zY l0 x12_1).f2).length c440_3))).cell? _ = some _ from hx443_1))
            (try have hy443_2 := fun (n_ : Nat) => (show ((((((w9.drewN n_).setCell ⟨gb441, 0, none⟩ (.int .i64 ((zY l0 x12_1).f0))).setCell ⟨gb441, 1, none⟩ (.int .i64 ((zY l0 x12_1).f1.f0))).setCell ⟨gb441, 2, none⟩ (.int .i64 ((zY l0 x12_1).f1.f1))).setCell ⟨gb441, 3, none⟩ (.slice A440_3 ((zY l0 x12_1).f2).length c440_3))).cell? _ = some _ from hx443_2))
            (try have hy443_3 := fun (n_ : Nat) => (show ((((((w9.drewN n_).setCell ⟨gb441, 0, none⟩ (.int .i64 ((zY l0 x12_1).f0))).setCell ⟨gb441, 1, none⟩ (.int .i64 ((zY l0 x12_1).f1.f0))).setCell ⟨gb441, 2, none⟩ (.int .i64 ((zY l0 x12_1).f1.f1))).setCell ⟨gb441, 3, none⟩ (.slice A440_3 ((zY l0 x12_1).f2).length c440_3))).cell? _ = some _ from hx443_3))
            clear hn443_0
            clear hn443_1
            clear hn443_2
            clear hn443_3
            replace p443 := eq_true p443
            replace q443 := eq_true q443
            go_wp2
            repeat (go_quiet (fail); try go_wp2)
            go_meet
            case rel => exact ⟨_, (decide (((zY l0 x12_1).f0) < ((zY l0 (ji12)).f0))), (by first | rfl | (simp; done) | (simp only [← hji12] <;> (first | rfl | simp)) | (simp [*]; done)), H', ⟨by have := HK1.out; first | omega | exact Nat.le_refl _⟩, ⟨by (with_reducible repeat (first | refine zV ?_ _ | refine zW ?_ | refine zJ ?_ _)); refine zU (cs := #[.int .i64 ((zY l0 x12_1).f0), .int .i64 ((zY l0 x12_1).f1.f0), .int .i64 ((zY l0 x12_1).f1.f1), .slice none 0 0]) ?_ 3 _ rfl; (with_reducible repeat (first | refine zV ?_ _ | refine zW ?_ | refine zJ ?_ _)); refine zU (cs := #[.int .i64 ((zY l0 x12_1).f0), .int .i64 ((zY l0 x12_1).f1.f0), .int .i64 0, .slice none 0 0]) ?_ 2 _ rfl; (with_reducible repeat (first | refine zV ?_ _ | refine zW ?_ | refine zJ ?_ _)); refine zU (cs := #[.int .i64 ((zY l0 x12_1).f0), .int .i64 0, .int .i64 0, .slice none 0 0]) ?_ 1 _ rfl; (with_reducible repeat (first | refine zV ?_ _ | refine zW ?_ | refine zJ ?_ _)); refine zU (cs := #[.int .i64 0, .int .i64 0, .int .i64 0, .slice none 0 0]) ?_ 0 _ rfl; exact zk BK441⟩, ⟨(zb w)⟩⟩
           ·rw [if_neg c14] at H
            exact absurd H (by simp)
          ·rw [if_neg c13] at H
           exact absurd H (by simp)
         ·rw [if_neg c11] at H
          have c11b0 : decide (0 < x12_1) = false := decide_eq_false c11
          clear c11
          (first | rw [c11b0] | (simp only [i64_w, i32_w]; rw [c11b0]) | skip)
          have H' := zQ.mk H
          clear H
          go_wp2
          repeat (go_quiet (fail); try go_wp2)
          go_meet
          case rel => exact ⟨_, (false), ar, H', ⟨by have := HK1.out; first | omega | exact Nat.le_refl _⟩, ⟨by (with_reducible repeat (first | refine zV ?_ _ | refine zW ?_ | refine zJ ?_ _)); refine zU (cs := #[.int .i64 ((zY l0 x12_1).f0), .int .i64 ((zY l0 x12_1).f1.f0), .int .i64 ((zY l0 x12_1).f1.f1), .slice none 0 0]) ?_ 3 _ rfl; (with_reducible repeat (first | refine zV ?_ _ | refine zW ?_ | refine zJ ?_ _)); refine zU (cs := #[.int .i64 ((zY l0 x12_1).f0), .int .i64 ((zY l0 x12_1).f1.f0), .int .i64 0, .slice none 0 0]) ?_ 2 _ rfl; (with_reducible repeat (first | refine zV ?_ _ | refine zW ?_ | refine zJ ?_ _)); refine zU (cs := #[.int .i64 ((zY l0 x12_1).f0), .int .i64 0, .int .i64 0, .slice none 0 0]) ?_ 1 _ rfl; (with_reducible repeat (first | refine zV ?_ _ | refine zW ?_ | refine zJ ?_ _)); refine zU (cs := #[.int .i64 0, .int .i64 0, .int .i64 0, .slice none 0 0]) ?_ 0 _ rfl; exact zk BK441⟩, ⟨(zb w)⟩⟩
        case rest =>
         clear HC8
         try clear c1
         try clear c2
         try clear c2b0
         try clear c2b1
         try clear p2
         try clear c3
         try clear c3b0
         try clear c4
         try clear c4b0
         try clear p4
         try clear q4
         try clear hx4
         try clear c5
         try clear c5b0
         try clear p6
         try clear c7
         try clear c9
         try clear c11
         try clear c11b0
         try clear c13
         try clear c13b0
         try clear c14
         try clear c14b0
         try clear hcz10_0 hcz10_1 hcz10_2 hcz10_3
         try clear hcz15_0 hcz15_1 hcz15_2 hcz15_3
         try clear hfz10_0 hfz10_1 hfz10_2 hfz10_3
         try clear hfz15_0 hfz15_1 hfz15_2 hfz15_3
         try clear hx440_0
         try clear hx440_1
         try clear hx440_2
         try clear hx440_3
         try clear hx443_0
         try clear hx443_1
         try clear hx443_2
         try clear hx443_3
         try clear p2
         try clear p440
         try clear p443
         try clear q440
         try clear q443
         obtain ⟨kq, x22_7, rfl, HA, HJ7, BK441, HB⟩ := hcut
         cases kq with
         | zero => exact absurd HA.out (by simp [zK.j1])
         | succ kj7 =>
          have H := HA.out
          clear HA
          simp only [zK.j1] at H
          by_cases c16 : x22_7 = true
          ·subst c16
           have H1 : (some 8) = some r := by rw [if_pos rfl] at H; exact H
           clear H
           have H := H1
           clear H1
           obtain rfl := Option.some.inj H
           go_wp2
           repeat (go_quiet (fail); try go_wp2)
           go_ret
           exact ⟨by first | rfl | (simp [zw, zq] <;> rfl) | (simp [*, zw, zq] <;> rfl), (zb w)⟩
          ·replace c16 := Bool.eq_false_iff.mpr c16
           subst c16
           have H1 : ((zN.f kj7 ((zY l0 x12_1).f1.f0) ((zY l0 x12_1).f1.f1)).bind fun t444 => (if t444 = true then (if (((zY l0 x12_1).f2).length : Int) > 100 then (some 2) else (zK.l1 kj7 l0 l0 (l0.length : Int) x12_1 ((zY l0 x12_1).f2) (((zY l0 x12_1).f2).length : Int) 0 ((zY l0 x12_1).f0) ((zY l0 x12_1).f1.f0) ((zY l0 x12_1).f1.f1) ((zY l0 x12_1).f2))) else (some 1))) = some r := by rw [if_neg (show ¬ (false = true) by decide)] at H; exact H
           clear H
           have H := H1
           clear H1
           replace H := Option.bind_eq_some_iff.mp H
           obtain ⟨t444, A170, H⟩ := H
           try dsimp only at H
           have A17 := zQ.mk A170
           clear A170
           by_cases c18 : t444 = true
           ·subst c18
            have H1 : (if (((zY l0 x12_1).f2).length : Int) > 100 then (some 2) else (zK.l1 kj7 l0 l0 (l0.length : Int) x12_1 ((zY l0 x12_1).f2) (((zY l0 x12_1).f2).length : Int) 0 ((zY l0 x12_1).f0) ((zY l0 x12_1).f1.f0) ((zY l0 x12_1).f1.f1) ((zY l0 x12_1).f2))) = some r := by rw [if_pos rfl] at H; exact H
            clear H
            have H := H1
            clear H1
            by_cases c19 : (((zY l0 x12_1).f2).length : Int) > 100
            ·rw [if_pos c19] at H
             have c19b0 : decide (100 < (((zY l0 x12_1).f2).length : Int)) = true := decide_eq_true c19
             have c19b1 : decide (100 < ((zY l0 x12_1).f2).length) = true := decide_eq_true (by omega)
             clear c19
             obtain rfl := Option.some.inj H
             obtain ⟨hcz20_0, hcz20_1, hcz20_2, hcz20_3, hfz20_0, hfz20_1, hfz20_2, hfz20_3⟩ := cz4 BK441
             go_wp2_with (first | (go_at_call 27; (with_reducible refine (zN.calls kj7 ((zY l0 x12_1).f1.f0) ((zY l0 x12_1).f1.f1) true _ A17.out).mono ?_); rintro e w21 ⟨rfl, hb⟩; replace BK441 := bb BK441 hb; replace HB := hs w hb; (try clear hb); obtain ⟨hcz22_0, hcz22_1, hcz22_2, hcz22_3, hfz22_0, hfz22_1, hfz22_2, hfz22_3⟩ := cz4 BK441))
             repeat (go_quiet (first | (go_at_call 27; (with_reducible refine (zN.calls kj7 ((zY l0 x12_1).f1.f0) ((zY l0 x12_1).f1.f1) true _ A17.out).mono ?_); rintro e w21 ⟨rfl, hb⟩; replace BK441 := bb BK441 hb; replace HB := hs w hb; (try clear hb); obtain ⟨hcz22_0, hcz22_1, hcz22_2, hcz22_3, hfz22_0, hfz22_1, hfz22_2, hfz22_3⟩ := cz4 BK441)); try go_wp2_with (first | (go_at_call 27; (with_reducible refine (zN.calls kj7 ((zY l0 x12_1).f1.f0) ((zY l0 x12_1).f1.f1) true _ A17.out).mono ?_); rintro e w21 ⟨rfl, hb⟩; replace BK441 := bb BK441 hb; replace HB := hs w hb; (try clear hb); obtain ⟨hcz22_0, hcz22_1, hcz22_2, hcz22_3, hfz22_0, hfz22_1, hfz22_2, hfz22_3⟩ := cz4 BK441)))
             go_ret
             exact ⟨by first | rfl | (simp [zw, zq] <;> rfl) | (simp [*, zw, zq] <;> rfl), (zb w)⟩
            ·rw [if_neg c19] at H
             have c19b0 : decide (100 < (((zY l0 x12_1).f2).length : Int)) = false := decide_eq_false c19
             have c19b1 : decide (100 < ((zY l0 x12_1).f2).length) = false := decide_eq_false (by omega)
             clear c19
             have H' := zQ.mk H
             clear H
             obtain ⟨hcz23_0, hcz23_1, hcz23_2, hcz23_3, hfz23_0, hfz23_1, hfz23_2, hfz23_3⟩ := cz4 BK441
             go_wp2_with (first | (go_at_call 27; (with_reducible refine (zN.calls kj7 ((zY l0 x12_1).f1.f0) ((zY l0 x12_1).f1.f1) true _ A17.out).mono ?_); rintro e w24 ⟨rfl, hb⟩; replace BK441 := bb BK441 hb; replace HB := hs w hb; (try clear hb); obtain ⟨hcz25_0, hcz25_1, hcz25_2, hcz25_3, hfz25_0, hfz25_1, hfz25_2, hfz25_3⟩ := cz4 BK441))
             repeat (go_quiet (first | (go_at_call 27; (with_reducible refine (zN.calls kj7 ((zY l0 x12_1).f1.f0) ((zY l0 x12_1).f1.f1) true _ A17.out).mono ?_); rintro e w24 ⟨rfl, hb⟩; replace BK441 := bb BK441 hb; replace HB := hs w hb; (try clear hb); obtain ⟨hcz25_0, hcz25_1, hcz25_2, hcz25_3, hfz25_0, hfz25_1, hfz25_2, hfz25_3⟩ := cz4 BK441)); try go_wp2_with (first | (go_at_call 27; (with_reducible refine (zN.calls kj7 ((zY l0 x12_1).f1.f0) ((zY l0 x12_1).f1.f1) true _ A17.out).mono ?_); rintro e w24 ⟨rfl, hb⟩; replace BK441 := bb BK441 hb; replace HB := hs w hb; (try clear hb); obtain ⟨hcz25_0, hcz25_1, hcz25_2, hcz25_3, hfz25_0, hfz25_1, hfz25_2, hfz25_3⟩ := cz4 BK441)))
             try simp only [sq]
             go_loopg [49] kj7 (fun kq v49 w' => ∃ (x49_3 : Int), v49 = .int .i64 x49_3 ∧ zQ (zK.l1 kq l0 l0 (l0.length : Int) x12_1 ((zY l0 x12_1).f2) (((zY l0 x12_1).f2).length : Int) x49_3 ((zY l0 x12_1).f0) ((zY l0 x12_1).f1.f0) ((zY l0 x12_1).f1.f1) ((zY l0 x12_1).f2) = some r) ∧ zQ (kq ≤ kj7) ∧ zQ (w'.heap[gb441]? = some (.cells #[.int .i64 ((zY l0 x12_1).f0), .int .i64 ((zY l0 x12_1).f1.f0), .int .i64 ((zY l0 x12_1).f1.f1), (.slice A440_3 ((zY l0 x12_1).f2).length c440_3)] 72 (0, 0))) ∧ zQ (Below w.heap.size w w'))
             case atStart => exact ⟨(0), ar, H', ⟨Nat.le_refl _⟩, ⟨(zk BK441)⟩, ⟨(zb w)⟩⟩
             case round =>
              clear H'
              try clear c1
              try clear c2
              try clear c2b0
              try clear c2b1
              try clear p2
              try clear c3
              try clear c3b0
              try clear c4
              try clear c4b0
              try clear p4
              try clear q4
              try clear hx4
              try clear c5
              try clear c5b0
              try clear p6
              try clear c7
              try clear c9
              try clear c11
              try clear c11b0
              try clear c13
              try clear c13b0
              try clear c14
              try clear c14b0
              try clear c16
              try clear c18
              try clear c19
              try clear c19b0
              try clear c19b1
              try clear hcz10_0 hcz10_1 hcz10_2 hcz10_3
              try clear hcz15_0 hcz15_1 hcz15_2 hcz15_3
              try clear hcz20_0 hcz20_1 hcz20_2 hcz20_3
              try clear hcz22_0 hcz22_1 hcz22_2 hcz22_3
              try clear hcz23_0 hcz23_1 hcz23_2 hcz23_3
              try clear hcz25_0 hcz25_1 hcz25_2 hcz25_3
              try clear hfz10_0 hfz10_1 hfz10_2 hfz10_3
              try clear hfz15_0 hfz15_1 hfz15_2 hfz15_3
              try clear hfz20_0 hfz20_1 hfz20_2 hfz20_3
              try clear hfz22_0 hfz22_1 hfz22_2 hfz22_3
              try clear hfz23_0 hfz23_1 hfz23_2 hfz23_3
              try clear hfz25_0 hfz25_1 hfz25_2 hfz25_3
              try clear hx440_0
              try clear hx440_1
              try clear hx440_2
              try clear hx440_3
              try clear hx443_0
              try clear hx443_1
              try clear hx443_2
              try clear hx443_3
              try clear p2
              try clear p4
              try clear p440
              try clear p443
              try clear p6
              try clear q4
              try clear q440
              try clear q443
              obtain ⟨x49_3, rfl, HA, HK3, BK441, HB⟩ := hrel
              cases gk with
              | zero => exact absurd HA.out (by simp [zK.l1])
              | succ k3 =>
               have H := HA.out
               clear HA
               simp only [zK.l1] at H
               by_cases c26 : x49_3 < (((zY l0 x12_1).f2).length : Int)
               ·rw [if_pos c26] at H
                have c26b0 : decide (x49_3 < (((zY l0 x12_1).f2).length : Int)) = true := decide_eq_true c26
                clear c26
                by_cases c27 : 0 ≤ x49_3
                ·rw [if_pos c27] at H
                 have c27b0 : decide (0 ≤ x49_3) = true := decide_eq_true c27
                 clear c27
                 by_cases c28 : x49_3 < (((zY l0 x12_1).f2).length : Int)
                 ·rw [if_pos c28] at H
                  have c28b0 : decide (x49_3 < (((zY l0 x12_1).f2).length : Int)) = true := decide_eq_true c28
                  clear c28
                  replace H := Option.bind_eq_some_iff.mp H
                  obtain ⟨t446, A290, H⟩ := H
                  try dsimp only at H
                  have A29 := zQ.mk A290
                  clear A290
                  by_cases c30 : t446 = true
                  ·subst c30
                   have H1 : (if x49_3 ≤ (((zY l0 x12_1).f2).length : Int) then ((zy.f k3 (((zY l0 x12_1).f2).take (x49_3 : Int).toNat) (rdOf ByteArray.empty ((zY l0 x12_1).f2) x49_3)).bind fun t448 => (if t448 = true then (some 7) else (zK.l1 k3 l0 l0 (l0.length : Int) x12_1 ((zY l0 x12_1).f2) (((zY l0 x12_1).f2).length : Int) (wrap64 (x49_3 + 1)) ((zY l0 x12_1).f0) ((zY l0 x12_1).f1.f0) ((zY l0 x12_1).f1.f1) ((zY l0 x12_1).f2)))) else (none)) = some r := by rw [if_pos rfl] at H; exact H
                   clear H
                   have H := H1
                   clear H1
                   have c31b0 := eq_true (of_decide_eq_true (by assumption) : 0 ≤ x49_3)
                   by_cases c32 : x49_3 ≤ (((zY l0 x12_1).f2).length : Int)
                   ·rw [if_pos c32] at H
                    have c32b0 := eq_true c32
                    have c32b1 : decide (x49_3 ≤ (((zY l0 x12_1).f2).length : Int)) = true := decide_eq_true c32
                    clear c32
                    replace H := Option.bind_eq_some_iff.mp H
                    obtain ⟨t448, A330, H⟩ := H
                    try dsimp only at H
                    have A33 := zQ.mk A330
                    clear A330
                    by_cases c34 : t448 = true
                    ·subst c34
                     have H1 : (some 7) = some r := by rw [if_pos rfl] at H; exact H
                     clear H
                     have H := H1
                     clear H1
                     obtain rfl := Option.some.inj H
                     have p445 : 0 ≤ (x49_3 : Int) := of_decide_eq_true (by assumption)
                     have q445 : x49_3 < (((zY l0 x12_1).f2).length : Int) := of_decide_eq_true (by assumption)
                     obtain ⟨ad445, e445, hx445_0⟩ := Kd.yD HR440_3.out x49_3 p445 q445
                     cases e445
                     replace hx445_0 := hz HB hx445_0
                     replace p445 := eq_true p445
                     replace q445 := eq_true q445
                     go_wp2_with (first | (go_at_call 25; (with_reducible refine (zS.calls k3 (rdOf ByteArray.empty ((zY l0 x12_1).f2) x49_3) true _ A29.out).mono ?_); rintro e w' ⟨rfl, ⟨nd, rfl⟩⟩; (try first | exact ⟨rfl, _, World.drewN_drewN _ _ _⟩ | exact ⟨rfl, _, Eq.trans (World.drewN_drewN _ _ _) (congrArg (World.drewN _) (Nat.add_assoc _ _ _))⟩); obtain ⟨hcz35_0, hcz35_1, hcz35_2, hcz35_3, hfz35_0, hfz35_1, hfz35_2, hfz35_3⟩ := cz4 BK441; obtain ⟨i036, hi036, _, hsz36, _⟩ := info_parts info9; obtain ⟨hcut36, hA36, hC36⟩ := xY (P := Tryz.prog) Value.string (⟨#[]⟩ : ByteArray) 70 9 .i64 Tryz.underlying70 hi036 hsz36 (some ad445) c440_3 ((zY l0 x12_1).f2) x49_3 (of_decide_eq_true (by assumption)) (of_decide_eq_true (by assumption)) HC440_3.out; have HR447 := zQ.mk (Kd.vY (h1 := fun _ => rfl) (hA36 _ (Kd.xN HR440_3.out))); have HC447 := zQ.mk hC36; clear hA36 hC36 hi036 hsz36) | (go_at_call 35; refine xq (args' := #[.slice (some ad445) (((zY l0 x12_1).f2).take (x49_3 : Int).toNat).length c440_3, .string (rdOf ByteArray.empty ((zY l0 x12_1).f2) x49_3)]) (by first | (rw [show (((zY l0 x12_1).f2).take (x49_3 : Int).toNat).length = x49_3.toNat from (by rw [List.length_take]; have h_ : (x49_3 : Int) ≤ (((zY l0 x12_1).f2).length : Int) := of_decide_eq_true (by assumption); omega)] <;> rfl) | rfl) ?_; (with_reducible refine (zy.calls k3 _ _ (((zY l0 x12_1).f2).take (x49_3 : Int).toNat) (rdOf ByteArray.empty ((zY l0 x12_1).f2) x49_3) true _ ?side1 HC447.out A33.out).mono ?_); (case side1 => repeat (first | exact (Kd.xz HR447.out (zb w)) | (with_reducible refine Kd.xK ?_ _) | (with_reducible refine Kd.xX ?_ _) | (with_reducible refine Kd.vZ ?_))); rintro e w' ⟨rfl, ⟨nd, rfl⟩⟩; (try first | exact ⟨rfl, _, World.drewN_drewN _ _ _⟩ | exact ⟨rfl, _, Eq.trans (World.drewN_drewN _ _ _) (congrArg (World.drewN _) (Nat.add_assoc _ _ _))⟩)))
                     repeat (go_quiet (first | (go_at_call 25; (with_reducible refine (zS.calls k3 (rdOf ByteArray.empty ((zY l0 x12_1).f2) x49_3) true _ A29.out).mono ?_); rintro e w' ⟨rfl, ⟨nd, rfl⟩⟩; (try first | exact ⟨rfl, _, World.drewN_drewN _ _ _⟩ | exact ⟨rfl, _, Eq.trans (World.drewN_drewN _ _ _) (congrArg (World.drewN _) (Nat.add_assoc _ _ _))⟩); obtain ⟨hcz35_0, hcz35_1, hcz35_2, hcz35_3, hfz35_0, hfz35_1, hfz35_2, hfz35_3⟩ := cz4 BK441; obtain ⟨i036, hi036, _, hsz36, _⟩ := info_parts info9; obtain ⟨hcut36, hA36, hC36⟩ := xY (P := Tryz.prog) Value.string (⟨#[]⟩ : ByteArray) 70 9 .i64 Tryz.underlying70 hi036 hsz36 (some ad445) c440_3 ((zY l0 x12_1).f2) x49_3 (of_decide_eq_true (by assumption)) (of_decide_eq_true (by assumption)) HC440_3.out; have HR447 := zQ.mk (Kd.vY (h1 := fun _ => rfl) (hA36 _ (Kd.xN HR440_3.out))); have HC447 := zQ.mk hC36; clear hA36 hC36 hi036 hsz36) | (go_at_call 35; refine xq (args' := #[.slice (some ad445) (((zY l0 x12_1).f2).take (x49_3 : Int).toNat).length c440_3, .string (rdOf ByteArray.empty ((zY l0 x12_1).f2) x49_3)]) (by first | (rw [show (((zY l0 x12_1).f2).take (x49_3 : Int).toNat).length = x49_3.toNat from (by rw [List.length_take]; have h_ : (x49_3 : Int) ≤ (((zY l0 x12_1).f2).length : Int) := of_decide_eq_true (by assumption); omega)] <;> rfl) | rfl) ?_; (with_reducible refine (zy.calls k3 _ _ (((zY l0 x12_1).f2).take (x49_3 : Int).toNat) (rdOf ByteArray.empty ((zY l0 x12_1).f2) x49_3) true _ ?side1 HC447.out A33.out).mono ?_); (case side1 => repeat (first | exact (Kd.xz HR447.out (zb w)) | (with_reducible refine Kd.xK ?_ _) | (with_reducible refine Kd.xX ?_ _) | (with_reducible refine Kd.vZ ?_))); rintro e w' ⟨rfl, ⟨nd, rfl⟩⟩; (try first | exact ⟨rfl, _, World.drewN_drewN _ _ _⟩ | exact ⟨rfl, _, Eq.trans (World.drewN_drewN _ _ _) (congrArg (World.drewN _) (Nat.add_assoc _ _ _))⟩))); try go_wp2_with (first | (go_at_call 25; (with_reducible refine (zS.calls k3 (rdOf ByteArray.empty ((zY l0 x12_1).f2) x49_3) true _ A29.out).mono ?_); rintro e w' ⟨rfl, ⟨nd, rfl⟩⟩; (try first | exact ⟨rfl, _, World.drewN_drewN _ _ _⟩ | exact ⟨rfl, _, Eq.trans (World.drewN_drewN _ _ _) (congrArg (World.drewN _) (Nat.add_assoc _ _ _))⟩); obtain ⟨hcz35_0, hcz35_1, hcz35_2, hcz35_3, hfz35_0, hfz35_1, hfz35_2, hfz35_3⟩ := cz4 BK441; obtain ⟨i036, hi036, _, hsz36, _⟩ := info_parts info9; obtain ⟨hcut36, hA36, hC36⟩ := xY (P := Tryz.prog) Value.string (⟨#[]⟩ : ByteArray) 70 9 .i64 Tryz.underlying70 hi036 hsz36 (some ad445) c440_3 ((zY l0 x12_1).f2) x49_3 (of_decide_eq_true (by assumption)) (of_decide_eq_true (by assumption)) HC440_3.out; have HR447 := zQ.mk (Kd.vY (h1 := fun _ => rfl) (hA36 _ (Kd.xN HR440_3.out))); have HC447 := zQ.mk hC36; clear hA36 hC36 hi036 hsz36) | (go_at_call 35; refine xq (args' := #[.slice (some ad445) (((zY l0 x12_1).f2).take (x49_3 : Int).toNat).length c440_3, .string (rdOf ByteArray.empty ((zY l0 x12_1).f2) x49_3)]) (by first | (rw [show (((zY l0 x12_1).f2).take (x49_3 : Int).toNat).length = x49_3.toNat from (by rw [List.length_take]; have h_ : (x49_3 : Int) ≤ (((zY l0 x12_1).f2).length : Int) := of_decide_eq_true (by assumption); omega)] <;> rfl) | rfl) ?_; (with_reducible refine (zy.calls k3 _ _ (((zY l0 x12_1).f2).take (x49_3 : Int).toNat) (rdOf ByteArray.empty ((zY l0 x12_1).f2) x49_3) true _ ?side1 HC447.out A33.out).mono ?_); (case side1 => repeat (first | exact (Kd.xz HR447.out (zb w)) | (with_reducible refine Kd.xK ?_ _) | (with_reducible refine Kd.xX ?_ _) | (with_reducible refine Kd.vZ ?_))); rintro e w' ⟨rfl, ⟨nd, rfl⟩⟩; (try first | exact ⟨rfl, _, World.drewN_drewN _ _ _⟩ | exact ⟨rfl, _, Eq.trans (World.drewN_drewN _ _ _) (congrArg (World.drewN _) (Nat.add_assoc _ _ _))⟩))))
                     go_ret
                     exact ⟨by first | rfl | (simp [zw, zq] <;> rfl) | (simp [*, zw, zq] <;> rfl), (zb w)⟩
                    ·replace c34 := Bool.eq_false_iff.mpr c34
                     subst c34
                     have H1 : (zK.l1 k3 l0 l0 (l0.length : Int) x12_1 ((zY l0 x12_1).f2) (((zY l0 x12_1).f2).length : Int) (wrap64 (x49_3 + 1)) ((zY l0 x12_1).f0) ((zY l0 x12_1).f1.f0) ((zY l0 x12_1).f1.f1) ((zY l0 x12_1).f2)) = some r := by rw [if_neg (show ¬ (false = true) by decide)] at H; exact H
                     clear H
                     have H := H1
                     clear H1
                     have H' := zQ.mk H
                     clear H
                     have p445 : 0 ≤ (x49_3 : Int) := of_decide_eq_true (by assumption)
                     have q445 : x49_3 < (((zY l0 x12_1).f2).length : Int) := of_decide_eq_true (by assumption)
                     obtain ⟨ad445, e445, hx445_0⟩ := Kd.yD HR440_3.out x49_3 p445 q445
                     cases e445
                     replace hx445_0 := hz HB hx445_0
                     replace p445 := eq_true p445
                     replace q445 := eq_true q445
                     go_wp2_with (first | (go_at_call 25; (with_reducible refine (zS.calls k3 (rdOf ByteArray.empty ((zY l0 x12_1).f2) x49_3) true _ A29.out).mono ?_); rintro e w' ⟨rfl, ⟨nd, rfl⟩⟩; (try first | exact ⟨rfl, _, World.drewN_drewN _ _ _⟩ | exact ⟨rfl, _, Eq.trans (World.drewN_drewN _ _ _) (congrArg (World.drewN _) (Nat.add_assoc _ _ _))⟩); obtain ⟨hcz37_0, hcz37_1, hcz37_2, hcz37_3, hfz37_0, hfz37_1, hfz37_2, hfz37_3⟩ := cz4 BK441; obtain ⟨i038, hi038, _, hsz38, _⟩ := info_parts info9; obtain ⟨hcut38, hA38, hC38⟩ := xY (P := Tryz.prog) Value.string (⟨#[]⟩ : ByteArray) 70 9 .i64 Tryz.underlying70 hi038 hsz38 (some ad445) c440_3 ((zY l0 x12_1).f2) x49_3 (of_decide_eq_true (by assumption)) (of_decide_eq_true (by assumption)) HC440_3.out; have HR447 := zQ.mk (Kd.vY (h1 := fun _ => rfl) (hA38 _ (Kd.xN HR440_3.out))); have HC447 := zQ.mk hC38; clear hA38 hC38 hi038 hsz38) | (go_at_call 35; refine xq (args' := #[.slice (some ad445) (((zY l0 x12_1).f2).take (x49_3 : Int).toNat).length c440_3, .string (rdOf ByteArray.empty ((zY l0 x12_1).f2) x49_3)]) (by first | (rw [show (((zY l0 x12_1).f2).take (x49_3 : Int).toNat).length = x49_3.toNat from (by rw [List.length_take]; have h_ : (x49_3 : Int) ≤ (((zY l0 x12_1).f2).length : Int) := of_decide_eq_true (by assumption); omega)] <;> rfl) | rfl) ?_; (with_reducible refine (zy.calls k3 _ _ (((zY l0 x12_1).f2).take (x49_3 : Int).toNat) (rdOf ByteArray.empty ((zY l0 x12_1).f2) x49_3) false _ ?side1 HC447.out A33.out).mono ?_); (case side1 => repeat (first | exact (Kd.xz HR447.out (zb w)) | (with_reducible refine Kd.xK ?_ _) | (with_reducible refine Kd.xX ?_ _) | (with_reducible refine Kd.vZ ?_))); rintro e w' ⟨rfl, ⟨nd, rfl⟩⟩; (try first | exact ⟨rfl, _, World.drewN_drewN _ _ _⟩ | exact ⟨rfl, _, Eq.trans (World.drewN_drewN _ _ _) (congrArg (World.drewN _) (Nat.add_assoc _ _ _))⟩)))
                     repeat (go_quiet (first | (go_at_call 25; (with_reducible refine (zS.calls k3 (rdOf ByteArray.empty ((zY l0 x12_1).f2) x49_3) true _ A29.out).mono ?_); rintro e w' ⟨rfl, ⟨nd, rfl⟩⟩; (try first | exact ⟨rfl, _, World.drewN_drewN _ _ _⟩ | exact ⟨rfl, _, Eq.trans (World.drewN_drewN _ _ _) (congrArg (World.drewN _) (Nat.add_assoc _ _ _))⟩); obtain ⟨hcz37_0, hcz37_1, hcz37_2, hcz37_3, hfz37_0, hfz37_1, hfz37_2, hfz37_3⟩ := cz4 BK441; obtain ⟨i038, hi038, _, hsz38, _⟩ := info_parts info9; obtain ⟨hcut38, hA38, hC38⟩ := xY (P := Tryz.prog) Value.string (⟨#[]⟩ : ByteArray) 70 9 .i64 Tryz.underlying70 hi038 hsz38 (some ad445) c440_3 ((zY l0 x12_1).f2) x49_3 (of_decide_eq_true (by assumption)) (of_decide_eq_true (by assumption)) HC440_3.out; have HR447 := zQ.mk (Kd.vY (h1 := fun _ => rfl) (hA38 _ (Kd.xN HR440_3.out))); have HC447 := zQ.mk hC38; clear hA38 hC38 hi038 hsz38) | (go_at_call 35; refine xq (args' := #[.slice (some ad445) (((zY l0 x12_1).f2).take (x49_3 : Int).toNat).length c440_3, .string (rdOf ByteArray.empty ((zY l0 x12_1).f2) x49_3)]) (by first | (rw [show (((zY l0 x12_1).f2).take (x49_3 : Int).toNat).length = x49_3.toNat from (by rw [List.length_take]; have h_ : (x49_3 : Int) ≤ (((zY l0 x12_1).f2).length : Int) := of_decide_eq_true (by assumption); omega)] <;> rfl) | rfl) ?_; (with_reducible refine (zy.calls k3 _ _ (((zY l0 x12_1).f2).take (x49_3 : Int).toNat) (rdOf ByteArray.empty ((zY l0 x12_1).f2) x49_3) false _ ?side1 HC447.out A33.out).mono ?_); (case side1 => repeat (first | exact (Kd.xz HR447.out (zb w)) | (with_reducible refine Kd.xK ?_ _) | (with_reducible refine Kd.xX ?_ _) | (with_reducible refine Kd.vZ ?_))); rintro e w' ⟨rfl, ⟨nd, rfl⟩⟩; (try first | exact ⟨rfl, _, World.drewN_drewN _ _ _⟩ | exact ⟨rfl, _, Eq.trans (World.drewN_drewN _ _ _) (congrArg (World.drewN _) (Nat.add_assoc _ _ _))⟩))); try go_wp2_with (first | (go_at_call 25; (with_reducible refine (zS.calls k3 (rdOf ByteArray.empty ((zY l0 x12_1).f2) x49_3) true _ A29.out).mono ?_); rintro e w' ⟨rfl, ⟨nd, rfl⟩⟩; (try first | exact ⟨rfl, _, World.drewN_drewN _ _ _⟩ | exact ⟨rfl, _, Eq.trans (World.drewN_drewN _ _ _) (congrArg (World.drewN _) (Nat.add_assoc _ _ _))⟩); obtain ⟨hcz37_0, hcz37_1, hcz37_2, hcz37_3, hfz37_0, hfz37_1, hfz37_2, hfz37_3⟩ := cz4 BK441; obtain ⟨i038, hi038, _, hsz38, _⟩ := info_parts info9; obtain ⟨hcut38, hA38, hC38⟩ := xY (P := Tryz.prog) Value.string (⟨#[]⟩ : ByteArray) 70 9 .i64 Tryz.underlying70 hi038 hsz38 (some ad445) c440_3 ((zY l0 x12_1).f2) x49_3 (of_decide_eq_true (by assumption)) (of_decide_eq_true (by assumption)) HC440_3.out; have HR447 := zQ.mk (Kd.vY (h1 := fun _ => rfl) (hA38 _ (Kd.xN HR440_3.out))); have HC447 := zQ.mk hC38; clear hA38 hC38 hi038 hsz38) | (go_at_call 35; refine xq (args' := #[.slice (some ad445) (((zY l0 x12_1).f2).take (x49_3 : Int).toNat).length c440_3, .string (rdOf ByteArray.empty ((zY l0 x12_1).f2) x49_3)]) (by first | (rw [show (((zY l0 x12_1).f2).take (x49_3 : Int).toNat).length = x49_3.toNat from (by rw [List.length_take]; have h_ : (x49_3 : Int) ≤ (((zY l0 x12_1).f2).length : Int) := of_decide_eq_true (by assumption); omega)] <;> rfl) | rfl) ?_; (with_reducible refine (zy.calls k3 _ _ (((zY l0 x12_1).f2).take (x49_3 : Int).toNat) (rdOf ByteArray.empty ((zY l0 x12_1).f2) x49_3) false _ ?side1 HC447.out A33.out).mono ?_); (case side1 => repeat (first | exact (Kd.xz HR447.out (zb w)) | (with_reducible refine Kd.xK ?_ _) | (with_reducible refine Kd.xX ?_ _) | (with_reducible refine Kd.vZ ?_))); rintro e w' ⟨rfl, ⟨nd, rfl⟩⟩; (try first | exact ⟨rfl, _, World.drewN_drewN _ _ _⟩ | exact ⟨rfl, _, Eq.trans (World.drewN_drewN _ _ _) (congrArg (World.drewN _) (Nat.add_assoc _ _ _))⟩))))
                     go_roundg k3
                     case measure => have := HK1.out; have := HJ7.out; have := HK3.out; omega
                     case rel => exact ⟨(wrap64 (x49_3 + 1)), ar, H', ⟨by have := HK1.out; have := HJ7.out; have := HK3.out; omega⟩, ⟨(zk BK441)⟩, ⟨(zb w)⟩⟩
                   ·rw [if_neg c32] at H
                    exact absurd H (by simp)
                  ·replace c30 := Bool.eq_false_iff.mpr c30
                   subst c30
                   have H1 : (some 5) = some r := by rw [if_neg (show ¬ (false = true) by decide)] at H; exact H
                   clear H
                   have H := H1
                   clear H1
                   obtain rfl := Option.some.inj H
                   have p445 : 0 ≤ (x49_3 : Int) := of_decide_eq_true (by assumption)
                   have q445 : x49_3 < (((zY l0 x12_1).f2).length : Int) := of_decide_eq_true (by assumption)
                   obtain ⟨ad445, e445, hx445_0⟩ := Kd.yD HR440_3.out x49_3 p445 q445
                   cases e445
                   replace hx445_0 := hz HB hx445_0
                   replace p445 := eq_true p445
                   replace q445 := eq_true q445
                   go_wp2_with (first | (go_at_call 25; (with_reducible refine (zS.calls k3 (rdOf ByteArray.empty ((zY l0 x12_1).f2) x49_3) false _ A29.out).mono ?_); rintro e w' ⟨rfl, ⟨nd, rfl⟩⟩; (try first | exact ⟨rfl, _, World.drewN_drewN _ _ _⟩ | exact ⟨rfl, _, Eq.trans (World.drewN_drewN _ _ _) (congrArg (World.drewN _) (Nat.add_assoc _ _ _))⟩)))
                   repeat (go_quiet (first | (go_at_call 25; (with_reducible refine (zS.calls k3 (rdOf ByteArray.empty ((zY l0 x12_1).f2) x49_3) false _ A29.out).mono ?_); rintro e w' ⟨rfl, ⟨nd, rfl⟩⟩; (try first | exact ⟨rfl, _, World.drewN_drewN _ _ _⟩ | exact ⟨rfl, _, Eq.trans (World.drewN_drewN _ _ _) (congrArg (World.drewN _) (Nat.add_assoc _ _ _))⟩))); try go_wp2_with (first | (go_at_call 25; (with_reducible refine (zS.calls k3 (rdOf ByteArray.empty ((zY l0 x12_1).f2) x49_3) false _ A29.out).mono ?_); rintro e w' ⟨rfl, ⟨nd, rfl⟩⟩; (try first | exact ⟨rfl, _, World.drewN_drewN _ _ _⟩ | exact ⟨rfl, _, Eq.trans (World.drewN_drewN _ _ _) (congrArg (World.drewN _) (Nat.add_assoc _ _ _))⟩))))
                   go_ret
                   exact ⟨by first | rfl | (simp [zw, zq] <;> rfl) | (simp [*, zw, zq] <;> rfl), (zb w)⟩
                 ·rw [if_neg c28] at H
                  exact absurd H (by simp)
                ·rw [if_neg c27] at H
                 exact absurd H (by simp)
               ·rw [if_neg c26] at H
                have c26b0 : decide (x49_3 < (((zY l0 x12_1).f2).length : Int)) = false := decide_eq_false c26
                clear c26
                have H' := zQ.mk H
                clear H
                go_wp2
                repeat (go_quiet (fail); try go_wp2)
                go_roundg k3
                case measure => have := HK1.out; have := HJ7.out; have := HK3.out; omega
                case rel => exact ⟨(wrap64 (x12_1 + 1)), ar, H', ⟨by have := HK1.out; have := HJ7.out; have := HK3.out; omega⟩, ⟨(zb w)⟩⟩
           ·replace c18 := Bool.eq_false_iff.mpr c18
            subst c18
            have H1 : (some 1) = some r := by rw [if_neg (show ¬ (false = true) by decide)] at H; exact H
            clear H
            have H := H1
            clear H1
            obtain rfl := Option.some.inj H
            obtain ⟨hcz39_0, hcz39_1, hcz39_2, hcz39_3, hfz39_0, hfz39_1, hfz39_2, hfz39_3⟩ := cz4 BK441
            go_wp2_with (first | (go_at_call 27; (with_reducible refine (zN.calls kj7 ((zY l0 x12_1).f1.f0) ((zY l0 x12_1).f1.f1) false _ A17.out).mono ?_); rintro e w40 ⟨rfl, hb⟩; replace BK441 := bb BK441 hb; replace HB := hs w hb; (try clear hb)))
            repeat (go_quiet (first | (go_at_call 27; (with_reducible refine (zN.calls kj7 ((zY l0 x12_1).f1.f0) ((zY l0 x12_1).f1.f1) false _ A17.out).mono ?_); rintro e w40 ⟨rfl, hb⟩; replace BK441 := bb BK441 hb; replace HB := hs w hb; (try clear hb))); try go_wp2_with (first | (go_at_call 27; (with_reducible refine (zN.calls kj7 ((zY l0 x12_1).f1.f0) ((zY l0 x12_1).f1.f1) false _ A17.out).mono ?_); rintro e w40 ⟨rfl, hb⟩; replace BK441 := bb BK441 hb; replace HB := hs w hb; (try clear hb))))
            go_ret
            exact ⟨by first | rfl | (simp [zw, zq] <;> rfl) | (simp [*, zw, zq] <;> rfl), (zb w)⟩
       ·replace c7 := Bool.eq_false_iff.mpr c7
        subst c7
        have H1 : (some 1) = some r := by rw [if_neg (show ¬ (false = true) by decide)] at H; exact H
        clear H
        have H := H1
        clear H1
        obtain rfl := Option.some.inj H
        have p440 : 0 ≤ (x12_1 : Int) := of_decide_eq_true (by assumption)
        have q440 : x12_1 < (l0.length : Int) := of_decide_eq_true (by assumption)
        obtain ⟨ad440, A440_3, c440_3, e440, hx440_0, hx440_1, hx440_2, hx440_3, hl440_3, hi440_3⟩ := at_T72 HR0.out x12_1 p440 q440
        cases e440
        replace hx440_0 := hz HB hx440_0
        replace hx440_1 := hz HB hx440_1
        replace hx440_2 := hz HB hx440_2
        replace hx440_3 := hz HB hx440_3
        have HR440_3 := zQ.mk hi440_3
        have HC440_3 := zQ.mk hl440_3
        clear hi440_3 hl440_3
        replace p440 := eq_true p440
        replace q440 := eq_true q440
        go_wp2_with (first | ((with_reducible refine gD 4 rfl ?_); refine bx w 4 #[.int .i64 0, .int .i64 0, .int .i64 0, .slice none 0 0] 72 ?_; intro gb441 hg w41 hb BK441 GW441 GE441; clear HB; intro HB; clear hb hg; obtain ⟨hcz42_0, hcz42_1, hcz42_2, hcz42_3, hfz42_0, hfz42_1, hfz42_2, hfz42_3⟩ := cz4 BK441) | (go_at_call 26; (with_reducible refine (jJ.calls ((zY l0 x12_1).f0) false _ A6.out).mono ?_); rintro e w' ⟨rfl, ⟨nd, rfl⟩⟩; (try first | exact ⟨rfl, _, World.drewN_drewN _ _ _⟩ | exact ⟨rfl, _, Eq.trans (World.drewN_drewN _ _ _) (congrArg (World.drewN _) (Nat.add_assoc _ _ _))⟩)))
        repeat (go_quiet (first | ((with_reducible refine gD 4 rfl ?_); refine bx w 4 #[.int .i64 0, .int .i64 0, .int .i64 0, .slice none 0 0] 72 ?_; intro gb441 hg w41 hb BK441 GW441 GE441; clear HB; intro HB; clear hb hg; obtain ⟨hcz42_0, hcz42_1, hcz42_2, hcz42_3, hfz42_0, hfz42_1, hfz42_2, hfz42_3⟩ := cz4 BK441) | (go_at_call 26; (with_reducible refine (jJ.calls ((zY l0 x12_1).f0) false _ A6.out).mono ?_); rintro e w' ⟨rfl, ⟨nd, rfl⟩⟩; (try first | exact ⟨rfl, _, World.drewN_drewN _ _ _⟩ | exact ⟨rfl, _, Eq.trans (World.drewN_drewN _ _ _) (congrArg (World.drewN _) (Nat.add_assoc _ _ _))⟩))); try go_wp2_with (first | ((with_reducible refine gD 4 rfl ?_); refine bx w 4 #[.int .i64 0, .int .i64 0, .int .i64 0, .slice none 0 0] 72 ?_; intro gb441 hg w41 hb BK441 GW441 GE441; clear HB; intro HB; clear hb hg; obtain ⟨hcz42_0, hcz42_1, hcz42_2, hcz42_3, hfz42_0, hfz42_1, hfz42_2, hfz42_3⟩ := cz4 BK441) | (go_at_call 26; (with_reducible refine (jJ.calls ((zY l0 x12_1).f0) false _ A6.out).mono ?_); rintro e w' ⟨rfl, ⟨nd, rfl⟩⟩; (try first | exact ⟨rfl, _, World.drewN_drewN _ _ _⟩ | exact ⟨rfl, _, Eq.trans (World.drewN_drewN _ _ _) (congrArg (World.drewN _) (Nat.add_assoc _ _ _))⟩))))
        go_ret
        exact ⟨by first | rfl | (simp [zw, zq] <;> rfl) | (simp [*, zw, zq] <;> rfl), (zb w)⟩
      ·rw [if_neg c5] at H
       exact absurd H (by simp)
     ·rw [if_neg c4] at H
      exact absurd H (by simp)
    ·rw [if_neg c3] at H
     have c3b0 : decide (x12_1 < (l0.length : Int)) = false := decide_eq_false c3
     clear c3
     obtain rfl := Option.some.inj H
     go_wp2
     repeat (go_quiet (fail); try go_wp2)
     go_ret
     exact ⟨by first | rfl | (simp [zw, zq] <;> rfl) | (simp [*, zw, zq] <;> rfl), (zb w)⟩
end Go.Proofs.YtaihfoihlbileaaGreatDoor.R6
namespace Go.Proofs.YtaihfoihlbileaaGreatDoor.R6
open Go.RowKit Go.Proofs.YtaihfoihlbileaaGreatDoorW.PrintWords Go.Proofs.YtaihfoihlbileaaGreatDoorW.PrintLast Go.Proofs.YtaihfoihlbileaaGreatDoorW.PrintMore
attribute [local go_sem] vB vv yV yK xL xH vw vz   
end Go.Proofs.YtaihfoihlbileaaGreatDoor.R6
namespace Go.Proofs.YtaihfoihlbileaaGreatDoor.R6
open Go.Sort Go.Proofs
variable {α : Type} [Inhabited α]
def swapR (d : Array α) (a b : Nat) : Nat → Array α
 | 0 => d
 | i + 1 => swp (swapR d a b i) (a + i) (b + i)
theorem xC (d : Array α) (a b : Nat) : ∀ i, (swapR d a b i).size = d.size
 | 0 => rfl
 | i + 1 => by
  unfold swapR
  rw [size_swp, xC d a b i]
def rotL (m i j : Nat) (d : Array α) : Array α :=
 if i = j then swapR d (m - i) m i
 else if i = 0 ∨ j = 0 then d
 else if j < i then rotL m (i - j) j (swapR d (m - i) m j)
 else rotL m i (j - i) (swapR d (m - i) (m + j - i) i)
termination_by i + j
decreasing_by all_goals omega
def rotA (d : Array α) (a m b : Nat) : Array α := rotL m (m - a) (b - m) d
theorem rotL_size (m : Nat) : ∀ (n i j : Nat) (d : Array α), i + j ≤ n → (rotL m i j d).size = d.size := by
 intro n
 induction n with
 | zero =>
  intro i j d h
  obtain rfl : i = 0 := by omega
  obtain rfl : j = 0 := by omega
  rw [rotL, if_pos rfl]
  exact xC ..
 | succ n ih =>
  intro i j d h
  rw [rotL]
  split
  ·exact xC ..
  ·split
   ·rfl
   ·split
    ·rw [ih _ _ _ (by omega), xC]
    ·rw [ih _ _ _ (by omega), xC]
theorem yT (d : Array α) (a m b : Nat) : (rotA d a m b).size = d.size := rotL_size m _ _ _ d (Nat.le_refl _)
def bsL (p : Nat → Bool) (i j : Nat) : Nat :=
 if i < j then (if p ((i + j) / 2) = true then bsL p ((i + j) / 2 + 1) j else bsL p i ((i + j) / 2)) else i
termination_by j - i
decreasing_by all_goals omega
theorem bsL_le (p : Nat → Bool) : ∀ (n i j : Nat), j - i ≤ n → i ≤ j → i ≤ bsL p i j ∧ bsL p i j ≤ j := by
 intro n
 induction n with
 | zero =>
  intro i j h hij
  rw [bsL, if_neg (by omega)]
  omega
 | succ n ih =>
  intro i j h hij
  rw [bsL]
  split
  ·split
   ·have := ih ((i + j) / 2 + 1) j (by omega) (by omega)
    omega
   ·have := ih i ((i + j) / 2) (by omega) (by omega)
    omega
  ·omega
def yH (d : Array α) (a : Nat) : Nat → Array α
 | 0 => d
 | k + 1 => swp (yH d a k) (a + k) (a + k + 1)
def yw (d : Array α) (m : Nat) : Nat → Array α
 | 0 => d
 | k + 1 => swp (yw d m k) (m - k) (m - k - 1)
theorem yF (d : Array α) (a : Nat) : ∀ k, (yH d a k).size = d.size
 | 0 => rfl
 | k + 1 => by
  unfold yH
  rw [size_swp, yF d a k]
theorem yG (d : Array α) (m : Nat) : ∀ k, (yw d m k).size = d.size
 | 0 => rfl
 | k + 1 => by
  unfold yw
  rw [size_swp, yG d m k]
variable (cf : α → α → Int)
def symS (d : Array α) (a m b : Nat) : Nat :=
 bsL (fun c => !(decide (cf d[(a + b) / 2 + m - 1 - c]! d[c]! < 0))) (if (a + b) / 2 < m then (a + b) / 2 + m - b else a) (if (a + b) / 2 < m then (a + b) / 2 else m)
def symA (d : Array α) (a m b : Nat) : Array α :=
 if m - a = 1 then yH d a (bsL (fun h => decide (cf d[h]! d[a]! < 0)) m b - 1 - a)
 else if b - m = 1 then yw d m (m - bsL (fun h => !(decide (cf d[m]! d[h]! < 0))) a m)
 else
  let s := symS cf d a m b
  let e := (a + b) / 2 + m - s
  let d1 := if s < m ∧ m < e then rotA d s m e else d
  let d2 := if a < s ∧ s < (a + b) / 2 ∧ (a + b) / 2 < b then symA d1 a s ((a + b) / 2) else d1
  if (a + b) / 2 < e ∧ e < b ∧ a < (a + b) / 2 then symA d2 ((a + b) / 2) e b else d2
termination_by b - a
decreasing_by all_goals omega
theorem symA_step (d : Array α) (a m b : Nat) (h1 : ¬ m - a = 1) (h2 : ¬ b - m = 1) : symA cf d a m b =
  (if (a + b) / 2 < (a + b) / 2 + m - symS cf d a m b ∧ (a + b) / 2 + m - symS cf d a m b < b ∧ a < (a + b) / 2 then
   symA cf (if a < symS cf d a m b ∧ symS cf d a m b < (a + b) / 2 ∧ (a + b) / 2 < b then symA cf (if symS cf d a m b < m ∧ m < (a + b) / 2 + m - symS cf d a m b then rotA d (symS cf d a m b) m ((a + b) / 2 + m - symS cf d a m b) else d) a (symS cf d a m b) ((a + b) / 2) else (if symS cf d a m b < m ∧ m < (a + b) / 2 + m - symS cf d a m b then rotA d (symS cf d a m b) m ((a + b) / 2 + m - symS cf d a m b) else d)) ((a + b) / 2) ((a + b) / 2 + m - symS cf d a m b) b
  else (if a < symS cf d a m b ∧ symS cf d a m b < (a + b) / 2 ∧ (a + b) / 2 < b then symA cf (if symS cf d a m b < m ∧ m < (a + b) / 2 + m - symS cf d a m b then rotA d (symS cf d a m b) m ((a + b) / 2 + m - symS cf d a m b) else d) a (symS cf d a m b) ((a + b) / 2) else (if symS cf d a m b < m ∧ m < (a + b) / 2 + m - symS cf d a m b then rotA d (symS cf d a m b) m ((a + b) / 2 + m - symS cf d a m b) else d))) := by
 rw [symA, if_neg h1, if_neg h2]
theorem uz : ∀ (N a m b : Nat) (d : Array α), b - a ≤ N → (symA cf d a m b).size = d.size := by
 intro N
 induction N with
 | zero =>
  intro a m b d h
  by_cases h1 : m - a = 1
  ·rw [symA, if_pos h1, yF]
  ·by_cases h2 : b - m = 1
   ·rw [symA, if_neg h1, if_pos h2, yG]
   ·rw [symA_step cf d a m b h1 h2, if_neg (by omega), if_neg (by omega)]
    split
    ·exact yT ..
    ·rfl
 | succ N ih =>
  intro a m b d h
  by_cases h1 : m - a = 1
  ·rw [symA, if_pos h1, yF]
  ·by_cases h2 : b - m = 1
   ·rw [symA, if_neg h1, if_pos h2, yG]
   ·rw [symA_step cf d a m b h1 h2]
    have hr : ∀ (s e : Nat), (if s < m ∧ m < e then rotA d s m e else d).size = d.size := by
     intro s e
     split
     ·exact yT ..
     ·rfl
    have hl : ∀ (s : Nat) (x : Array α), x.size = d.size → (if a < s ∧ s < (a + b) / 2 ∧ (a + b) / 2 < b then symA cf x a s ((a + b) / 2) else x).size = d.size := by
     intro s x hx
     split
     ·rw [ih _ _ _ _ (by omega), hx]
     ·exact hx
    split
    ·rw [ih _ _ _ _ (by omega)]
     exact hl _ _ (hr _ _)
    ·exact hl _ _ (hr _ _)
def insB (n a : Nat) (d : Array α) : Array α :=
 if a + 20 ≤ n then insB n (a + 20) (insertionSort (ltOf cf) d a (a + 20)) else insertionSort (ltOf cf) d a n
termination_by n - a
decreasing_by omega
def mrgB (bs n a : Nat) (d : Array α) : Array α :=
 if 0 < bs ∧ a + 2 * bs ≤ n then mrgB bs n (a + 2 * bs) (symA cf d a (a + bs) (a + 2 * bs)) else if a + bs < n then symA cf d a (a + bs) n else d
termination_by n - a
decreasing_by omega
def uS (n bs : Nat) (d : Array α) : Array α :=
 if 0 < bs ∧ bs < n then uS n (bs * 2) (mrgB cf bs n 0 d) else d
termination_by n - bs
decreasing_by omega
def yR (d : Array α) : Array α := uS cf d.size 20 (insB cf d.size 0 d)
end Go.Proofs.YtaihfoihlbileaaGreatDoor.R6
namespace Go.Proofs.YtaihfoihlbileaaGreatDoor.R6
open Go Go.Proofs Go.Shelf Go.RowKit Go.Lib Go.Sort
variable {α : Type} [Inhabited α]
theorem swapRange_calls (enc : α → Value) (hO : OneCell enc) (blk off cap : Nat) (d : Array α) (a b n : Nat) (cmpv : Value) (w : World) (hH : Holds enc w blk off d) (ha : a + n ≤ d.size) (hb : b + n ≤ d.size) (hab : a ≠ b) (hsz : d.size < 4611686018427387904) :
  Calls Tryz.prog 110 #[.slice (some ⟨blk, off, none⟩) d.size cap, .int .i64 a, .int .i64 b, .int .i64 n, cmpv] w fun e w' => e = .returned (.tuple #[]) ∧ ∃ q, w' = (putRow enc w blk off (swapR d a b n)).drewN q := by
 have hcl0 := hO.cells
 simp only [Value.cells] at hcl0
 have hst := hO.store Tryz.prog
 have HST : Hid (w = (putRow enc w blk off d).drewN 0) := (putRow_self enc w blk off d hH).symm
 have HH : Hid (Holds enc w blk off d) := hH
 clear hH
 go_enter Tryz.func110, Tryz.ntmps110
 go_wp2
 go_loopg [10] n (fun g1 vi wr => ∃ (i q : Nat), vi = .int .i64 i ∧ i ≤ n ∧ n - i ≤ g1 ∧ wr = (putRow enc w blk off (swapR d a b i)).drewN q)
 case atStart => exact ⟨0, 0, by go_num, by omega, by omega, HST.out⟩
 case round =>
  obtain ⟨i, q, rfl, hi, hg1, rfl⟩ := hrel
  by_cases hlt : i < n
  ·have hltz : (i : Int) < (n : Int) := by omega
   have hsi := xC d a b i
   have hHi := holds_putRow enc w blk off d (swapR d a b i) HH.out hsi
   obtain ⟨xa, hxa⟩ : ∃ x, (swapR d a b i)[a + i]! = x := ⟨_, rfl⟩
   obtain ⟨xb, hxb⟩ : ∃ x, (swapR d a b i)[b + i]! = x := ⟨_, rfl⟩
   obtain ⟨ca, fa⟩ := hHi (a + i) (by omega)
   obtain ⟨cb, fb⟩ := hHi (b + i) (by omega)
   rw [hxa] at ca
   rw [hxb] at cb
   clear hHi
   have ca' : ((putRow enc w blk off (swapR d a b i)).drewN q).cell? ⟨blk, off + (a + i), none⟩ = some (enc xa) := ca
   have cb' : ((putRow enc w blk off (swapR d a b i)).drewN q).cell? ⟨blk, off + (b + i), none⟩ = some (enc xb) := cb
   have fa' : ((putRow enc w blk off (swapR d a b i)).drewN q).frozen? ⟨blk, off + (a + i), none⟩ = false := fa
   have fb' : ((putRow enc w blk off (swapR d a b i)).drewN q).frozen? ⟨blk, off + (b + i), none⟩ = false := fb
   clear ca cb fa fb
   generalize hwq : (putRow enc w blk off (swapR d a b i)).drewN q = wq at ca' cb' fa' fb' ⊢
   have HWQ : Hid (wq = (putRow enc w blk off (swapR d a b i)).drewN q) := hwq.symm
   clear hwq
   have wa : IntKind.i64.wrap ((a : Int) + (i : Int)) = ((a + i : Nat) : Int) := by rw [IntKind.wrap_i64]; omega
   have wb : IntKind.i64.wrap ((b : Int) + (i : Int)) = ((b + i : Nat) : Int) := by rw [IntKind.wrap_i64]; omega
   have za : ((a + i : Nat) : Int) < (d.size : Int) := by omega
   have zb : ((b + i : Nat) : Int) < (d.size : Int) := by omega
   have pa : (0 : Int) ≤ ((a + i : Nat) : Int) := by omega
   have pb : (0 : Int) ≤ ((b + i : Nat) : Int) := by omega
   have ea : (((a + i : Nat) : Int)).toNat = a + i := by omega
   have eb : (((b + i : Nat) : Int)).toNat = b + i := by omega
   obtain ⟨p1, hp1⟩ : ∃ p, p = a + i := ⟨_, rfl⟩
   obtain ⟨p2, hp2⟩ : ∃ p, p = b + i := ⟨_, rfl⟩
   rw [← hp1] at ca' fa' wa za pa ea hxa
   rw [← hp2] at cb' fb' wb zb pb eb hxb
   have HP1 : Hid (p1 = a + i) := hp1
   have HP2 : Hid (p2 = b + i) := hp2
   clear hp1 hp2
   have hne : (⟨blk, off + p1, none⟩ : Addr) ≠ ⟨blk, off + p2, none⟩ := by
    intro e
    have h1 : off + p1 = off + p2 := congrArg Addr.off e
    have h2 := HP1.out
    have h3 := HP2.out
    omega
   have cb2 : (wq.setCell ⟨blk, off + p1, none⟩ (enc xb)).drew.cell? ⟨blk, off + p2, none⟩ = some (enc xb) := (World.cell?_setCell_other (w := wq) (v := enc xb) (h := hne)).trans cb'
   have fb2 : (wq.setCell ⟨blk, off + p1, none⟩ (enc xb)).drew.frozen? ⟨blk, off + p2, none⟩ = false := (World.frozen?_setCell ..).trans fb'
   go_wp2
   go_big_region
   all_goals go_wp2
   go_roundg (n - (i + 1))
   case measure => omega
   case rel =>
    refine ⟨i + 1, q + 1, by go_num, by omega, by omega, ?_⟩
    rw [HWQ.out, ← hxa, ← hxb, HP1.out, HP2.out]
    exact swap_worldC enc w blk off (swapR d a b i) q (a + i) (b + i) (by omega) (by omega)
  ·have hltz : ¬ (i : Int) < (n : Int) := by omega
   obtain rfl : i = n := by omega
   go_wp2
   go_end0
   exact ⟨rfl, q, rfl⟩
theorem uM (enc : α → Value) (w : World) (blk off : Nat) (d d' : Array α) (q q' : Nat) (h : d'.size = d.size) : (putRow enc ((putRow enc w blk off d).drewN q) blk off d').drewN q' = (putRow enc w blk off d').drewN (q + q') := by
 rw [show putRow enc ((putRow enc w blk off d).drewN q) blk off d' = (putRow enc (putRow enc w blk off d) blk off d').drewN q from rfl, putRow_putRow _ _ _ _ _ _ h, World.drewN_drewN]
theorem holds_again (enc : α → Value) (w : World) (blk off : Nat) (d d' : Array α) (q : Nat) (hH : Holds enc w blk off d) (h : d'.size = d.size) : Holds enc ((putRow enc w blk off d').drewN q) blk off d' := fun j hj => holds_putRow enc w blk off d d' hH h j hj
theorem swapRange_at (enc : α → Value) (hO : OneCell enc) (blk off cap : Nat) (d dk : Array α) (a b n q : Nat) (cmpv : Value) (w : World) (hH : Holds enc w blk off d) (hs : dk.size = d.size) (ha : a + n ≤ d.size) (hb : b + n ≤ d.size) (hab : a ≠ b) (hsz : d.size < 4611686018427387904) :
  Calls Tryz.prog 110 #[.slice (some ⟨blk, off, none⟩) d.size cap, .int .i64 a, .int .i64 b, .int .i64 n, cmpv] ((putRow enc w blk off dk).drewN q) fun e w' => e = .returned (.tuple #[]) ∧ ∃ q', w' = (putRow enc w blk off (swapR dk a b n)).drewN q' := by
 have h := swapRange_calls enc hO blk off cap dk a b n cmpv ((putRow enc w blk off dk).drewN q) (holds_again enc w blk off d dk q hH hs) (by omega) (by omega) hab (by omega)
 rw [hs] at h
 refine h.mono fun e w' ⟨he, q', hw⟩ => ⟨he, q + q', ?_⟩
 rw [hw, uM _ _ _ _ _ _ _ _ (xC ..)]
theorem rotate_calls (enc : α → Value) (hO : OneCell enc) (blk off cap : Nat) (d : Array α) (a m b : Nat) (cmpv : Value) (w : World) (hH : Holds enc w blk off d) (ha : a < m) (hm : m < b) (hb : b ≤ d.size) (hsz : d.size < 4611686018427387904) :
  Calls Tryz.prog 99 #[.slice (some ⟨blk, off, none⟩) d.size cap, .int .i64 a, .int .i64 m, .int .i64 b, cmpv] w fun e w' => e = .returned (.tuple #[]) ∧ ∃ q, w' = (putRow enc w blk off (rotA d a m b)).drewN q := by
 have HST : Hid (w = (putRow enc w blk off d).drewN 0) := (putRow_self enc w blk off d hH).symm
 have HH : Hid (Holds enc w blk off d) := hH
 have wi : IntKind.i64.wrap ((m : Int) - (a : Int)) = ((m - a : Nat) : Int) := by rw [IntKind.wrap_i64]; omega
 have wj : IntKind.i64.wrap ((b : Int) - (m : Int)) = ((b - m : Nat) : Int) := by rw [IntKind.wrap_i64]; omega
 clear hH
 go_enter Tryz.func99, Tryz.ntmps99
 go_wp2
 go_loopg [10, 11] (b - a) (fun g1 vi vj wr => ∃ (i j q : Nat) (dk : Array α), vi = .int .i64 i ∧ vj = .int .i64 j ∧ 0 < i ∧ 0 < j ∧ i ≤ m ∧ m + j ≤ d.size ∧ i + j ≤ g1 ∧ dk.size = d.size ∧ wr = (putRow enc w blk off dk).drewN q ∧ Hid (rotL m i j dk = rotA d a m b))
 case atStart => exact ⟨m - a, b - m, 0, d, rfl, rfl, by omega, by omega, by omega, by omega, by omega, rfl, HST.out, rfl⟩
 case round =>
  obtain ⟨i, j, q, dk, rfl, rfl, hi, hj, him, hjm, hg1, hsk, rfl, HR⟩ := hrel
  clear wi wj
  have wmi : IntKind.i64.wrap ((m : Int) - (i : Int)) = ((m - i : Nat) : Int) := by rw [IntKind.wrap_i64]; omega
  by_cases hij : i = j
  ·subst hij
   have hc := swapRange_at enc hO blk off cap d dk (m - i) m i q cmpv w HH.out hsk (by omega) (by omega) (by omega) hsz
   generalize (putRow enc w blk off dk).drewN q = wq at hc ⊢
   go_wp2_with (go_at_call 110; refine hc.mono ?_; rintro e w' ⟨rfl, q', rfl⟩)
   go_end0
   refine ⟨rfl, q', ?_⟩
   rw [← HR.out, rotL, if_pos rfl]
  ·have hijz : ¬ (i : Int) = (j : Int) := by omega
   by_cases hlt : j < i
   ·have hltz : (j : Int) < (i : Int) := by omega
    have wij : IntKind.i64.wrap ((i : Int) - (j : Int)) = ((i - j : Nat) : Int) := by rw [IntKind.wrap_i64]; omega
    have hc := swapRange_at enc hO blk off cap d dk (m - i) m j q cmpv w HH.out hsk (by omega) (by omega) (by omega) hsz
    generalize (putRow enc w blk off dk).drewN q = wq at hc ⊢
    go_wp2_with (go_at_call 110; refine hc.mono ?_; rintro e w' ⟨rfl, q', rfl⟩)
    go_roundg (i - j + j)
    case measure => omega
    case rel =>
     refine ⟨i - j, j, q', swapR dk (m - i) m j, rfl, rfl, by omega, hj, by omega, hjm, by omega, by rw [xC]; exact hsk, rfl, (show _ = _ from ?_)⟩
     rw [← HR.out, rotL.eq_1 m i j, if_neg hij, if_neg (by omega), if_pos hlt]
   ·have hltz : ¬ (j : Int) < (i : Int) := by omega
    have wij : IntKind.i64.wrap ((j : Int) - (i : Int)) = ((j - i : Nat) : Int) := by rw [IntKind.wrap_i64]; omega
    obtain ⟨mj, hmj⟩ : ∃ x, x = m + j := ⟨_, rfl⟩
    have wmj : IntKind.i64.wrap ((m : Int) + (j : Int)) = (mj : Int) := by rw [IntKind.wrap_i64]; omega
    have wmji : IntKind.i64.wrap ((mj : Int) - (i : Int)) = ((mj - i : Nat) : Int) := by rw [IntKind.wrap_i64]; omega
    have hc := swapRange_at enc hO blk off cap d dk (m - i) (mj - i) i q cmpv w HH.out hsk (by omega) (by omega) (by omega) hsz
    have HMJ : Hid (mj = m + j) := hmj
    clear hmj
    generalize (putRow enc w blk off dk).drewN q = wq at hc ⊢
    go_wp2_with (go_at_call 110; refine hc.mono ?_; rintro e w' ⟨rfl, q', rfl⟩)
    go_roundg (i + (j - i))
    case measure => omega
    case rel =>
     refine ⟨i, j - i, q', swapR dk (m - i) (mj - i) i, rfl, rfl, hi, by omega, him, by omega, by omega, by rw [xC]; exact hsk, rfl, (show _ = _ from ?_)⟩
     rw [← HR.out, HMJ.out, rotL.eq_1 m i j, if_neg hij, if_neg (by omega), if_neg hlt]
end Go.Proofs.YtaihfoihlbileaaGreatDoor.R6
namespace Go.Proofs.YtaihfoihlbileaaGreatDoor.R6
open Go Go.Proofs Go.Shelf Go.RowKit Go.Lib Go.Sort
variable {α : Type} [Inhabited α]
theorem cmpAt {g : Nat} {cb : Array Value} {enc : α → Value} {cf : α → α → Int} {blk off : Nat} {d : Array α} {w : World} (hcmp : CmpReads Tryz.prog g cb enc cf blk off d.size w) (X : Array α) (x y : α) (hX : X.size = d.size) (m n : Nat) :
  Calls Tryz.prog g (#[enc x, enc y] ++ cb) (((putRow enc w blk off X).drewN m).drewN n) fun e w' => e = .returned (.int .i64 (cf x y)) ∧ ∃ q, w' = (((putRow enc w blk off X).drewN m).drewN n).drewN q := by
 have := hcmp (m + n) #[] X hX x y
 rw [sortWorld_none, ← World.drewN_drewN] at this
 exact this
theorem symMerge_left (enc : α → Value) (hO : OneCell enc) (cf : α → α → Int) (g : Nat) (cb : Array Value) (blk off cap : Nat) (d dk : Array α) (a m b q : Nat) (w : World) (eg : ∀ args w, (callFunc g args).run Tryz.prog w = .ok (.enter g args) w) (hcmp : CmpReads Tryz.prog g cb enc cf blk off d.size w)
  (hH : Holds enc w blk off d) (hs : dk.size = d.size) (ha : m = a + 1) (hm : m < b) (hb : b ≤ d.size) (hsz : d.size < 4611686018427387904) :
  Calls Tryz.prog 85 #[.slice (some ⟨blk, off, none⟩) d.size cap, .int .i64 a, .int .i64 m, .int .i64 b, .func (.func g) #[] cb] ((putRow enc w blk off dk).drewN q) fun e w' => e = .returned (.tuple #[]) ∧ ∃ q, w' = (putRow enc w blk off (yH dk a (bsL (fun h => decide (cf dk[h]! dk[a]! < 0)) m b - 1 - a))).drewN q := by
 have HC : Aside _ := fun (X : Array α) x y hX m n => cmpAt hcmp X x y hX m n
 have HH : Hid (Holds enc w blk off d) := hH
 have wma : IntKind.i64.wrap ((m : Int) - (a : Int)) = 1 := by rw [IntKind.wrap_i64]; omega
 have hcl0 := hO.cells
 simp only [Value.cells] at hcl0
 have hst := hO.store Tryz.prog
 have hm1 : a < m := by omega
 have hm2 : m ≤ a + 1 := by omega
 clear hH hcmp ha
 go_enter Tryz.func85, Tryz.ntmps85
 go_wp2
 go_loopg [10, 11] b (fun g1 vi vj wr => ∃ (i j q1 : Nat), vi = .int .i64 i ∧ vj = .int .i64 j ∧ m ≤ i ∧ i ≤ j ∧ j ≤ b ∧ j - i ≤ g1 ∧ wr = (putRow enc w blk off dk).drewN q1 ∧ Hid (bsL (fun h => decide (cf dk[h]! dk[a]! < 0)) i j = bsL (fun h => decide (cf dk[h]! dk[a]! < 0)) m b))
 case atStart => exact ⟨m, b, q, rfl, rfl, Nat.le_refl _, by omega, Nat.le_refl _, by omega, rfl, rfl⟩
 case round =>
  obtain ⟨i, j, q1, rfl, rfl, hmi, hij, hjb, hg1, rfl, HB⟩ := hrel
  by_cases hlt : i < j
  ·have hltz : (i : Int) < (j : Int) := by omega
   obtain ⟨h, hh⟩ : ∃ h, h = (i + j) / 2 := ⟨_, rfl⟩
   have eh : Hid (((i : Int) + (j : Int)) / 2 = (h : Int)) := (by show _ = _; omega)
   have hih : i ≤ h := by omega
   have hhj : h < j := by omega
   obtain ⟨xh, hxh⟩ : ∃ x, dk[h]! = x := ⟨_, rfl⟩
   obtain ⟨xa, hxa⟩ : ∃ x, dk[a]! = x := ⟨_, rfl⟩
   have hHk := holds_putRow enc w blk off d dk HH.out hs
   obtain ⟨ch, fh⟩ := hHk h (by omega)
   obtain ⟨ca, fa⟩ := hHk a (by omega)
   rw [hxh] at ch
   rw [hxa] at ca
   have zh : (h : Int) < (d.size : Int) := by omega
   have za : (a : Int) < (d.size : Int) := by omega
   have ph : (0 : Int) ≤ (h : Int) := by omega
   have pa : (0 : Int) ≤ (a : Int) := by omega
   have hh2 : ((h : Int)).toNat = h := by omega
   have ha2 : ((a : Int)).toNat = a := by omega
   have ch' : ((putRow enc w blk off dk).drewN q1).cell? ⟨blk, off + h, none⟩ = some (enc xh) := ch
   have ca' : ((putRow enc w blk off dk).drewN q1).cell? ⟨blk, off + a, none⟩ = some (enc xa) := ca
   have hc := HC.out dk xh xa hs q1
   clear hHk ch ca fh fa
   have HHH : Hid (h = (i + j) / 2) := hh
   clear hh
   go_wp2
   rw [eh.out]
   generalize hwq : (putRow enc w blk off dk).drewN q1 = wq at ch' ca' hc ⊢
   by_cases hlv : cf xh xa < 0
   ·go_wp2_with fail
    go_quiet (first | (go_at_fn g; refine Calls.quiet_of (hc _)))
    go_wp2_with fail
    go_roundg (j - (h + 1))
    case measure => omega
    case rel =>
     refine ⟨h + 1, j, q1 + nq, by go_num, rfl, by omega, by omega, hjb, Nat.le_refl _, by rw [← hwq, World.drewN_drewN], (show _ = _ from ?_)⟩
     rw [← HB.out, bsL.eq_1 _ i j, if_pos hlt, ← HHH.out, if_pos (by rw [hxh, hxa]; exact decide_eq_true hlv)]
   ·go_wp2_with fail
    go_quiet (first | (go_at_fn g; refine Calls.quiet_of (hc _)))
    go_wp2_with fail
    go_roundg (h - i)
    case measure => omega
    case rel =>
     refine ⟨i, h, q1 + nq, rfl, rfl, hmi, hih, by omega, Nat.le_refl _, by rw [← hwq, World.drewN_drewN], (show _ = _ from ?_)⟩
     rw [← HB.out, bsL.eq_1 _ i j, if_pos hlt, ← HHH.out, if_neg (by rw [hxh, hxa]; simpa using hlv)]
  ·have hltz : ¬ (i : Int) < (j : Int) := by omega
   obtain rfl : i = j := by omega
   have ht : Hid (bsL (fun h => decide (cf dk[h]! dk[a]! < 0)) m b = i) := by
    show _ = _
    rw [← HB.out, bsL, if_neg (by omega)]
   clear HB hg1
   go_wp2
   go_loopg [13] (i - 1 - a) (fun g2 vk wr2 => ∃ (k c q2 : Nat), vk = .int .i64 c ∧ Hid (c = a + k) ∧ k ≤ i - 1 - a ∧ i - 1 - a - k ≤ g2 ∧ wr2 = (putRow enc w blk off (yH dk a k)).drewN q2)
   case atStart => exact ⟨0, a, q1, rfl, rfl, by omega, by omega, rfl⟩
   case round =>
    obtain ⟨k, c, q2, rfl, HCK, hk, hg2, rfl⟩ := hrel
    have hck := HCK.out
    by_cases hlt2 : c < i - 1
    ·have hltz2 : (c : Int) < (i : Int) - 1 := by omega
     have hki : a + k < i - 1 := by omega
     have hsk : (yH dk a k).size = d.size := by rw [yF, hs]
     have hHk := holds_putRow enc w blk off d (yH dk a k) HH.out hsk
     obtain ⟨x1, hx1⟩ : ∃ x, (yH dk a k)[c]! = x := ⟨_, rfl⟩
     obtain ⟨x2, hx2⟩ : ∃ x, (yH dk a k)[c + 1]! = x := ⟨_, rfl⟩
     obtain ⟨c1, f1⟩ := hHk c (by omega)
     obtain ⟨c2, f2⟩ := hHk (c + 1) (by omega)
     rw [hx1] at c1
     rw [hx2] at c2
     have c1' : ((putRow enc w blk off (yH dk a k)).drewN q2).cell? ⟨blk, off + c, none⟩ = some (enc x1) := c1
     have c2' : ((putRow enc w blk off (yH dk a k)).drewN q2).cell? ⟨blk, off + (c + 1), none⟩ = some (enc x2) := c2
     have f1' : ((putRow enc w blk off (yH dk a k)).drewN q2).frozen? ⟨blk, off + c, none⟩ = false := f1
     have f2' : ((putRow enc w blk off (yH dk a k)).drewN q2).frozen? ⟨blk, off + (c + 1), none⟩ = false := f2
     clear hHk c1 c2 f1 f2
     obtain ⟨p2, hp2⟩ : ∃ p, p = c + 1 := ⟨_, rfl⟩
     have wp : IntKind.i64.wrap ((c : Int) + 1) = (p2 : Int) := by rw [IntKind.wrap_i64]; omega
     have z1 : (c : Int) < (d.size : Int) := by omega
     have z2 : (p2 : Int) < (d.size : Int) := by omega
     have e1 : ((c : Int)).toNat = c := by omega
     have e2 : ((p2 : Int)).toNat = p2 := by omega
     have n1 : (0 : Int) ≤ (c : Int) := by omega
     have n2 : (0 : Int) ≤ (p2 : Int) := by omega
     rw [← hp2] at c2' f2' hx2
     generalize hwq : (putRow enc w blk off (yH dk a k)).drewN q2 = wq at c1' c2' f1' f2' ⊢
     have HWQ : Hid (wq = (putRow enc w blk off (yH dk a k)).drewN q2) := hwq.symm
     have hne : (⟨blk, off + c, none⟩ : Addr) ≠ ⟨blk, off + p2, none⟩ := by
      intro e
      have h1 : off + c = off + p2 := congrArg Addr.off e
      omega
     have c3 : (wq.setCell ⟨blk, off + c, none⟩ (enc x2)).drew.cell? ⟨blk, off + p2, none⟩ = some (enc x2) := (World.cell?_setCell_other (w := wq) (v := enc x2) (h := hne)).trans c2'
     have f3 : (wq.setCell ⟨blk, off + c, none⟩ (enc x2)).drew.frozen? ⟨blk, off + p2, none⟩ = false := (World.frozen?_setCell ..).trans f2'
     have HP2 : Hid (p2 = c + 1) := hp2
     clear hwq hp2 hck
     go_wp2
     go_big_region
     all_goals go_wp2
     go_roundg (i - 1 - a - (k + 1))
     case measure => omega
     case rel =>
      have hck := HCK.out
      have hp2 := HP2.out
      refine ⟨k + 1, c + 1, q2 + 1, by go_num, (show _ = _ from by omega), by omega, Nat.le_refl _, ?_⟩
      rw [HWQ.out, ← hx1, ← hx2, HP2.out]
      have := swap_worldC enc w blk off (yH dk a k) q2 c (c + 1) (by omega) (by omega)
      rw [this, hck]
      rfl
    ·have hltz2 : ¬ (c : Int) < (i : Int) - 1 := by omega
     obtain rfl : k = i - 1 - a := by omega
     go_wp2
     (try simp only [Exit.inBlock, Exit.then]); refine bodyPost_ret (results_none rfl _ _ _) rfl ?_
     exact ⟨rfl, q2, by rw [ht.out]⟩
theorem symMerge_right (enc : α → Value) (hO : OneCell enc) (cf : α → α → Int) (g : Nat) (cb : Array Value) (blk off cap : Nat) (d dk : Array α) (a m b q : Nat) (w : World) (eg : ∀ args w, (callFunc g args).run Tryz.prog w = .ok (.enter g args) w) (hcmp : CmpReads Tryz.prog g cb enc cf blk off d.size w)
  (hH : Holds enc w blk off d) (hs : dk.size = d.size) (ha : b = m + 1) (hm : a + 1 < m) (hb : b ≤ d.size) (hsz : d.size < 4611686018427387904) :
  Calls Tryz.prog 85 #[.slice (some ⟨blk, off, none⟩) d.size cap, .int .i64 a, .int .i64 m, .int .i64 b, .func (.func g) #[] cb] ((putRow enc w blk off dk).drewN q) fun e w' => e = .returned (.tuple #[]) ∧ ∃ q, w' = (putRow enc w blk off (yw dk m (m - bsL (fun h => !(decide (cf dk[m]! dk[h]! < 0))) a m))).drewN q := by
 have HC : Aside _ := fun (X : Array α) x y hX m n => cmpAt hcmp X x y hX m n
 have HH : Hid (Holds enc w blk off d) := hH
 have wma : ¬ ((m : Int) - (a : Int)) = 1 := by omega
 have wbm : IntKind.i64.wrap ((b : Int) - (m : Int)) = 1 := by rw [IntKind.wrap_i64]; omega
 have hcl0 := hO.cells
 simp only [Value.cells] at hcl0
 have hst := hO.store Tryz.prog
 have hm1 : m < b := by omega
 have hm2 : b ≤ m + 1 := by omega
 clear hH hcmp ha
 go_enter Tryz.func85, Tryz.ntmps85
 have fma : (((m : Int) - (a : Int)) == 1) = false := beq_eq_false_iff_ne.2 wma
 go_wp2
 try rw [fma]
 clear wma wbm fma
 go_loopg [14, 15] m (fun g1 vi vj wr => ∃ (i j q1 : Nat), vi = .int .i64 i ∧ vj = .int .i64 j ∧ a ≤ i ∧ i ≤ j ∧ j ≤ m ∧ j - i ≤ g1 ∧ wr = (putRow enc w blk off dk).drewN q1 ∧ Hid (bsL (fun h => !(decide (cf dk[m]! dk[h]! < 0))) i j = bsL (fun h => !(decide (cf dk[m]! dk[h]! < 0))) a m))
 case atStart => exact ⟨a, m, q, rfl, rfl, Nat.le_refl _, by omega, Nat.le_refl _, by omega, rfl, rfl⟩
 case round =>
  obtain ⟨i, j, q1, rfl, rfl, hai, hij, hjm, hg1, rfl, HB⟩ := hrel
  by_cases hlt : i < j
  ·have hltz : (i : Int) < (j : Int) := by omega
   obtain ⟨h, hh⟩ : ∃ h, h = (i + j) / 2 := ⟨_, rfl⟩
   have eh : Hid (((i : Int) + (j : Int)) / 2 = (h : Int)) := (by show _ = _; omega)
   have hih : i ≤ h := by omega
   have hhj : h < j := by omega
   obtain ⟨xh, hxh⟩ : ∃ x, dk[h]! = x := ⟨_, rfl⟩
   obtain ⟨xa, hxa⟩ : ∃ x, dk[m]! = x := ⟨_, rfl⟩
   have hHk := holds_putRow enc w blk off d dk HH.out hs
   obtain ⟨ch, fh⟩ := hHk h (by omega)
   obtain ⟨ca, fa⟩ := hHk m (by omega)
   rw [hxh] at ch
   rw [hxa] at ca
   have zh : (h : Int) < (d.size : Int) := by omega
   have za : (m : Int) < (d.size : Int) := by omega
   have ph : (0 : Int) ≤ (h : Int) := by omega
   have pa : (0 : Int) ≤ (m : Int) := by omega
   have hh2 : ((h : Int)).toNat = h := by omega
   have ha2 : ((m : Int)).toNat = m := by omega
   have ch' : ((putRow enc w blk off dk).drewN q1).cell? ⟨blk, off + h, none⟩ = some (enc xh) := ch
   have ca' : ((putRow enc w blk off dk).drewN q1).cell? ⟨blk, off + m, none⟩ = some (enc xa) := ca
   have hc := HC.out dk xa xh hs q1
   clear hHk ch ca fh fa
   have HHH : Hid (h = (i + j) / 2) := hh
   clear hh
   go_wp2
   rw [eh.out]
   generalize hwq : (putRow enc w blk off dk).drewN q1 = wq at ch' ca' hc ⊢
   by_cases hlv : ¬ cf xa xh < 0
   ·have hlz : decide (cf xa xh < 0) = false := decide_eq_false hlv
    go_wp2_with fail
    go_quiet (first | (go_at_fn g; refine Calls.quiet_of (hc _)))
    go_wp2_with fail
    go_roundg (j - (h + 1))
    case measure => omega
    case rel =>
     refine ⟨h + 1, j, q1 + nq, by go_num, rfl, by omega, by omega, hjm, Nat.le_refl _, by rw [← hwq, World.drewN_drewN], (show _ = _ from ?_)⟩
     rw [← HB.out, bsL.eq_1 _ i j, if_pos hlt, ← HHH.out, if_pos (by rw [hxh, hxa]; simpa using hlv)]
   ·have hlv := Decidable.not_not.1 hlv
    have hlz : decide (cf xa xh < 0) = true := decide_eq_true hlv
    go_wp2_with fail
    go_quiet (first | (go_at_fn g; refine Calls.quiet_of (hc _)))
    go_wp2_with fail
    go_roundg (h - i)
    case measure => omega
    case rel =>
     refine ⟨i, h, q1 + nq, rfl, rfl, hai, hih, by omega, Nat.le_refl _, by rw [← hwq, World.drewN_drewN], (show _ = _ from ?_)⟩
     rw [← HB.out, bsL.eq_1 _ i j, if_pos hlt, ← HHH.out, if_neg (by rw [hxh, hxa]; simpa using hlv)]
  ·have hltz : ¬ (i : Int) < (j : Int) := by omega
   obtain rfl : i = j := by omega
   have ht : Hid (bsL (fun h => !(decide (cf dk[m]! dk[h]! < 0))) a m = i) := by
    show _ = _
    rw [← HB.out, bsL, if_neg (by omega)]
   clear HB hg1
   go_wp2
   go_loopg [17] (m - i) (fun g2 vk wr2 => ∃ (k c q2 : Nat), vk = .int .i64 c ∧ Hid (c + k = m) ∧ k ≤ m - i ∧ m - i - k ≤ g2 ∧ wr2 = (putRow enc w blk off (yw dk m k)).drewN q2)
   case atStart => exact ⟨0, m, q1, rfl, rfl, by omega, by omega, rfl⟩
   case round =>
    obtain ⟨k, c, q2, rfl, HCK, hk, hg2, rfl⟩ := hrel
    have hck := HCK.out
    by_cases hlt2 : i < c
    ·have hki : i + k < m := by omega
     obtain ⟨p2, hp2⟩ : ∃ p, c = p + 1 := ⟨c - 1, by omega⟩
     have hsk : (yw dk m k).size = d.size := by rw [yG, hs]
     have hHk := holds_putRow enc w blk off d (yw dk m k) HH.out hsk
     obtain ⟨x1, hx1⟩ : ∃ x, (yw dk m k)[c]! = x := ⟨_, rfl⟩
     obtain ⟨x2, hx2⟩ : ∃ x, (yw dk m k)[p2]! = x := ⟨_, rfl⟩
     obtain ⟨c1, f1⟩ := hHk c (by omega)
     obtain ⟨c2, f2⟩ := hHk p2 (by omega)
     rw [hx1] at c1
     rw [hx2] at c2
     have c1' : ((putRow enc w blk off (yw dk m k)).drewN q2).cell? ⟨blk, off + c, none⟩ = some (enc x1) := c1
     have c2' : ((putRow enc w blk off (yw dk m k)).drewN q2).cell? ⟨blk, off + p2, none⟩ = some (enc x2) := c2
     have f1' : ((putRow enc w blk off (yw dk m k)).drewN q2).frozen? ⟨blk, off + c, none⟩ = false := f1
     have f2' : ((putRow enc w blk off (yw dk m k)).drewN q2).frozen? ⟨blk, off + p2, none⟩ = false := f2
     clear hHk c1 c2 f1 f2
     have hltz2 : (i : Int) < (c : Int) := by omega
     have wp : IntKind.i64.wrap ((c : Int) - 1) = (p2 : Int) := by rw [IntKind.wrap_i64]; omega
     have z1 : (c : Int) < (d.size : Int) := by omega
     have z2 : (p2 : Int) < (d.size : Int) := by omega
     have e1 : ((c : Int)).toNat = c := by omega
     have e2 : ((p2 : Int)).toNat = p2 := by omega
     have n1 : (0 : Int) ≤ (c : Int) := by omega
     have n2 : (0 : Int) ≤ (p2 : Int) := by omega
     generalize hwq : (putRow enc w blk off (yw dk m k)).drewN q2 = wq at c1' c2' f1' f2' ⊢
     have HWQ : Hid (wq = (putRow enc w blk off (yw dk m k)).drewN q2) := hwq.symm
     have hne : (⟨blk, off + c, none⟩ : Addr) ≠ ⟨blk, off + p2, none⟩ := by
      intro e
      have h1 : off + c = off + p2 := congrArg Addr.off e
      omega
     have c3 : (wq.setCell ⟨blk, off + c, none⟩ (enc x2)).drew.cell? ⟨blk, off + p2, none⟩ = some (enc x2) := (World.cell?_setCell_other (w := wq) (v := enc x2) (h := hne)).trans c2'
     have f3 : (wq.setCell ⟨blk, off + c, none⟩ (enc x2)).drew.frozen? ⟨blk, off + p2, none⟩ = false := (World.frozen?_setCell ..).trans f2'
     have HP2 : Hid (c = p2 + 1) := hp2
     clear hwq hp2 hck
     go_wp2
     go_big_region
     all_goals go_wp2
     go_roundg (m - i - (k + 1))
     case measure => omega
     case rel =>
      have hck := HCK.out
      have hp2 := HP2.out
      refine ⟨k + 1, p2, q2 + 1, by go_num, (show _ = _ from by omega), by omega, Nat.le_refl _, ?_⟩
      rw [HWQ.out, ← hx1, ← hx2]
      have := swap_worldC enc w blk off (yw dk m k) q2 c p2 (by omega) (by omega)
      rw [this]
      show _ = (putRow enc w blk off (swp (yw dk m k) (m - k) (m - k - 1))).drewN (q2 + 1)
      rw [show m - k = c by omega, show c - 1 = p2 by omega]
    ·have hltz2 : ¬ (i : Int) < (c : Int) := by omega
     obtain rfl : k = m - i := by omega
     go_wp2
     (try simp only [Exit.inBlock, Exit.then]); refine bodyPost_ret (results_none rfl _ _ _) rfl ?_
     exact ⟨rfl, q2, by rw [ht.out]⟩
end Go.Proofs.YtaihfoihlbileaaGreatDoor.R6
namespace Go.Proofs.YtaihfoihlbileaaGreatDoor.R6
open Go Go.Proofs Go.Shelf Go.RowKit Go.Lib Go.Sort
variable {α : Type} [Inhabited α]
theorem rotate_at (enc : α → Value) (hO : OneCell enc) (blk off cap : Nat) (d dk : Array α) (a m b q : Nat) (cmpv : Value) (w : World) (hH : Holds enc w blk off d) (hs : dk.size = d.size) (ha : a < m) (hm : m < b) (hb : b ≤ d.size) (hsz : d.size < 4611686018427387904) :
  Calls Tryz.prog 99 #[.slice (some ⟨blk, off, none⟩) d.size cap, .int .i64 a, .int .i64 m, .int .i64 b, cmpv] ((putRow enc w blk off dk).drewN q) fun e w' => e = .returned (.tuple #[]) ∧ ∃ q', w' = (putRow enc w blk off (rotA dk a m b)).drewN q' := by
 have h := rotate_calls enc hO blk off cap dk a m b cmpv ((putRow enc w blk off dk).drewN q) (holds_again enc w blk off d dk q hH hs) ha hm (by omega) (by omega)
 rw [hs] at h
 refine h.mono fun e w' ⟨he, q', hw⟩ => ⟨he, q + q', ?_⟩
 rw [hw, uM _ _ _ _ _ _ _ _ (yT ..)]
theorem symMerge_step (enc : α → Value) (hO : OneCell enc) (cf : α → α → Int) (g : Nat) (cb : Array Value) (blk off cap : Nat) (d dk : Array α) (a m b q : Nat) (w : World) (eg : ∀ args w, (callFunc g args).run Tryz.prog w = .ok (.enter g args) w) (hcmp : CmpReads Tryz.prog g cb enc cf blk off d.size w)
    (hH : Holds enc w blk off d) (hs : dk.size = d.size) (ha : a + 1 < m) (hm : m + 1 < b) (hb : b ≤ d.size) (hsz : d.size < 4611686018427387904)
    (hIH : ∀ (a' m' b' q' : Nat) (dk' : Array α), b' - a' < b - a → a' < m' → m' < b' → b' ≤ d.size → dk'.size = d.size → Calls Tryz.prog 85 #[.slice (some ⟨blk, off, none⟩) d.size cap, .int .i64 a', .int .i64 m', .int .i64 b', .func (.func g) #[] cb] ((putRow enc w blk off dk').drewN q') fun e w' => e = .returned (.tuple #[]) ∧ ∃ q, w' = (putRow enc w blk off (symA cf dk' a' m' b')).drewN q) :
    Calls Tryz.prog 85 #[.slice (some ⟨blk, off, none⟩) d.size cap, .int .i64 a, .int .i64 m, .int .i64 b, .func (.func g) #[] cb] ((putRow enc w blk off dk).drewN q) fun e w' => e = .returned (.tuple #[]) ∧ ∃ q, w' = (putRow enc w blk off (symA cf dk a m b)).drewN q := by
  have HC : Aside _ := fun (X : Array α) x y hX m n => cmpAt hcmp X x y hX m n
  have HH : Hid (Holds enc w blk off d) := hH
  have HI : Aside _ := hIH
  have wma : ¬ ((m : Int) - (a : Int)) = 1 := by omega
  have wbm : ¬ ((b : Int) - (m : Int)) = 1 := by omega
  have fma : (((m : Int) - (a : Int)) == 1) = false := beq_eq_false_iff_ne.2 wma
  have fbm : (((b : Int) - (m : Int)) == 1) = false := beq_eq_false_iff_ne.2 wbm
  have hcl0 := hO.cells
  simp only [Value.cells] at hcl0
  have hst := hO.store Tryz.prog
  obtain ⟨mid, hmid⟩ : ∃ x, x = (a + b) / 2 := ⟨_, rfl⟩
  obtain ⟨n, hn⟩ : ∃ x, x = mid + m := ⟨_, rfl⟩
  obtain ⟨p, hp⟩ : ∃ x, x + 1 = n := ⟨n - 1, by omega⟩
  have hmb : mid + 1 < b := by omega
  have ham : a + 1 < mid + 1 := by omega
  have emid : Hid (((a : Int) + (b : Int)) / 2 = (mid : Int)) := (by show _ = _; omega)
  have en : Hid ((mid : Int) + (m : Int) = (n : Int)) := (by show _ = _; omega)
  have ep : Hid ((n : Int) - 1 = (p : Int)) := (by show _ = _; omega)
  have hnlt : n < 9223372036854775808 := by omega
  have HM : Hid (mid = (a + b) / 2) := hmid
  have HN : Hid (n = mid + m) := hn
  have HP : Hid (p + 1 = n) := hp
  clear hH hcmp hIH hmid hn hp
  by_cases hc : mid < m
  · have hcz : ((a : Int) + (b : Int)) / 2 < (m : Int) := by
      have := emid.out
      omega
    obtain ⟨s0, hs0⟩ : ∃ x, x + b = n := ⟨n - b, by have := HN.out; have := HM.out; omega⟩
    have es0 : Hid ((n : Int) - (b : Int) = (s0 : Int)) := (by show _ = _; omega)
    have HS0 : Hid (s0 + b = n) := hs0
    clear hs0
    go_enter Tryz.func85, Tryz.ntmps85
    go_wp2
    rw [emid.out, en.out, ep.out]
    rw [es0.out]
    clear hcz fma fbm wma wbm
    go_loopg [20, 21] b (fun g1 vi vj wr => ∃ (i j q1 : Nat), vi = .int .i64 i ∧ vj = .int .i64 j ∧ s0 ≤ i ∧ i ≤ j ∧ j ≤ mid ∧ j - i ≤ g1 ∧ wr = (putRow enc w blk off dk).drewN q1 ∧ Hid (bsL (fun c => !(decide (cf dk[p - c]! dk[c]! < 0))) i j = bsL (fun c => !(decide (cf dk[p - c]! dk[c]! < 0))) s0 mid))
    case atStart =>
      have h1 := HM.out
      have h2 := HN.out
      have h3 := HS0.out
      exact ⟨s0, mid, q, rfl, rfl, Nat.le_refl _, by omega, Nat.le_refl _, by omega, rfl, rfl⟩
    case round =>
      obtain ⟨i, j, q1, rfl, rfl, hai, hij, hjm, hg1, rfl, HB⟩ := hrel
      by_cases hlt : i < j
      · have hltz : (i : Int) < (j : Int) := by omega
        obtain ⟨h, hh⟩ : ∃ h, h = (i + j) / 2 := ⟨_, rfl⟩
        have eh : Hid (((i : Int) + (j : Int)) / 2 = (h : Int)) := (by show _ = _; omega)
        have hih : i ≤ h := by omega
        have hhj : h < j := by omega
        obtain ⟨pc, hpc⟩ : ∃ x, x + h = p := ⟨p - h, by have h1 := HM.out; have h2 := HN.out; have h3 := HP.out; omega⟩
        have hpb : pc < b := by
          have h1 := HM.out
          have h2 := HN.out
          have h3 := HP.out
          have h4 := HS0.out
          omega
        have epc : Hid ((p : Int) - (h : Int) = (pc : Int)) := (by show _ = _; omega)
        have wpc : IntKind.i64.wrap ((p : Int) - (h : Int)) = (pc : Int) := by rw [IntKind.wrap_i64]; omega
        have hpc2 : p - h = pc := by omega
        have hhb : h < b := by have h1 := HM.out; omega
        obtain ⟨xh, hxh⟩ : ∃ x, dk[h]! = x := ⟨_, rfl⟩
        obtain ⟨xa, hxa⟩ : ∃ x, dk[pc]! = x := ⟨_, rfl⟩
        have hHk := holds_putRow enc w blk off d dk HH.out hs
        obtain ⟨ch, fh⟩ := hHk h (by omega)
        obtain ⟨ca, fa⟩ := hHk pc (by omega)
        rw [hxh] at ch
        rw [hxa] at ca
        have zh : (h : Int) < (d.size : Int) := by omega
        have za : (pc : Int) < (d.size : Int) := by omega
        have ph : (0 : Int) ≤ (h : Int) := by omega
        have pa : (0 : Int) ≤ (pc : Int) := by omega
        have hh2 : ((h : Int)).toNat = h := by omega
        have ha2 : ((pc : Int)).toNat = pc := by omega
        have ch' : ((putRow enc w blk off dk).drewN q1).cell? ⟨blk, off + h, none⟩ = some (enc xh) := ch
        have ca' : ((putRow enc w blk off dk).drewN q1).cell? ⟨blk, off + pc, none⟩ = some (enc xa) := ca
        have hc := HC.out dk xa xh hs q1
        have HHH : Hid (h = (i + j) / 2) := hh
        have HPC : Hid (p - h = pc) := hpc2
        clear hHk ch ca fh fa hh hpc hpc2
        go_wp2
        rw [eh.out]
        generalize hwq : (putRow enc w blk off dk).drewN q1 = wq at ch' ca' hc ⊢
        by_cases hlv : ¬ cf xa xh < 0
        · have hlz : decide (cf xa xh < 0) = false := decide_eq_false hlv
          go_wp2_with fail
          go_quiet (first | (go_at_fn g; refine Calls.quiet_of (hc _)))
          go_wp2_with fail
          go_roundg (j - (h + 1))
          case measure => omega
          case rel =>
            refine ⟨h + 1, j, q1 + nq, by go_num, rfl, by omega, by omega, hjm, Nat.le_refl _, by rw [← hwq, World.drewN_drewN], (show _ = _ from ?_)⟩
            rw [← HB.out, bsL.eq_1 _ i j, if_pos hlt, ← HHH.out, if_pos (by rw [HPC.out, hxh, hxa]; simpa using hlv)]
        · have hlv := Decidable.not_not.1 hlv
          have hlz : decide (cf xa xh < 0) = true := decide_eq_true hlv
          go_wp2_with fail
          go_quiet (first | (go_at_fn g; refine Calls.quiet_of (hc _)))
          go_wp2_with fail
          go_roundg (h - i)
          case measure => omega
          case rel =>
            refine ⟨i, h, q1 + nq, rfl, rfl, hai, hih, by omega, Nat.le_refl _, by rw [← hwq, World.drewN_drewN], (show _ = _ from ?_)⟩
            rw [← HB.out, bsL.eq_1 _ i j, if_pos hlt, ← HHH.out, if_neg (by rw [HPC.out, hxh, hxa]; simpa using hlv)]
      · have hltz : ¬ (i : Int) < (j : Int) := by omega
        obtain rfl : i = j := by omega
        have hsy : Hid (symS cf dk a m b = i) := by
          show _ = _
          have h1 := HM.out
          have h2 := HN.out
          have h3 := HP.out
          have e1 : (a + b) / 2 + m - 1 = p := by omega
          have e2 := HB.out
          rw [bsL, if_neg (by omega)] at e2
          unfold symS
          rw [e1, if_pos (by omega), if_pos (by omega)]
          have h4 := HS0.out
          rw [← h1, show mid + m - b = s0 by omega]
          exact e2.symm
        clear HB hg1
        obtain ⟨e, hen⟩ : ∃ x, x + i = n := ⟨n - i, by have h1 := HM.out; have h2 := HN.out; omega⟩
        have wen : IntKind.i64.wrap ((n : Int) - (i : Int)) = (e : Int) := by rw [IntKind.wrap_i64]; omega
        have hei : e + i = mid + m := by have := HN.out; omega
        have hEN : Hid (e + i = mid + m) := hei
        have hmid2 := HM.out
        have he1 : (i < m ∧ m < e) ↔ (i < m ∧ i < mid) := by omega
        have heb : s0 ≤ i := hai
        have hbe : e ≤ b := by
          have h2 := HN.out
          have h4 := HS0.out
          omega
        by_cases x1 : (i : Int) < (m : Int) <;> by_cases x2 : (m : Int) < (e : Int) <;> by_cases x3 : (a : Int) < (i : Int) <;> by_cases x6 : (e : Int) < (b : Int) <;> first
          | (exfalso; omega)
          | (have x4 : ((i : Int) < (mid : Int)) = ((m : Int) < (e : Int)) := by (apply propext; omega)
             have x5 : ((mid : Int) < (e : Int)) = ((i : Int) < (m : Int)) := by (apply propext; omega)
             clear hen hei he1 hmid2
             go_wp2_with (first
               | (go_at_call 99; (with_reducible refine (rotate_at enc hO blk off cap d dk i m e _ _ w HH.out hs (by omega) (by omega) (by omega) hsz).mono ?_); rintro e' w' ⟨rfl, q3, rfl⟩)
               | (go_at_call 85; (with_reducible refine (HI.out a i mid _ _ (by have := HM.out; omega) (by omega) (by have := hEN.out; omega) (by omega) (by first | exact hs | exact (yT ..).trans hs)).mono ?_); rintro e' w' ⟨rfl, q4, rfl⟩)
               | (go_at_call 85; (with_reducible refine (HI.out mid e b _ _ (by have := HM.out; omega) (by have := hEN.out; omega) (by omega) (by omega) (by first | exact hs | exact (yT ..).trans hs | exact (uz cf _ _ _ _ _ (Nat.le_refl _)).trans hs | exact (uz cf _ _ _ _ _ (Nat.le_refl _)).trans ((yT ..).trans hs))).mono ?_); rintro e' w' ⟨rfl, q5, rfl⟩))
             go_end0
             refine ⟨rfl, _, congrArg (fun X => (putRow enc w blk off X).drewN _) ?_⟩
             have hE := hEN.out
             have hmid2 := HM.out
             rw [symA_step cf dk a m b (by omega) (by omega), hsy.out, ← hmid2, show mid + m - i = e by omega]
             (first | rw [if_pos (show mid < e ∧ e < b ∧ a < mid by omega)] | rw [if_neg (show ¬ (mid < e ∧ e < b ∧ a < mid) by omega)])
             (first | rw [if_pos (show a < i ∧ i < mid ∧ mid < b by omega)] | rw [if_neg (show ¬ (a < i ∧ i < mid ∧ mid < b) by omega)])
             (first | rw [if_pos (show i < m ∧ m < e by omega)] | rw [if_neg (show ¬ (i < m ∧ m < e) by omega)]))
  · have hcz : ¬ ((a : Int) + (b : Int)) / 2 < (m : Int) := by
      have := emid.out
      omega
    go_enter Tryz.func85, Tryz.ntmps85
    go_wp2
    rw [emid.out, en.out, ep.out]
    clear hcz fma fbm wma wbm
    go_loopg [20, 21] b (fun g1 vi vj wr => ∃ (i j q1 : Nat), vi = .int .i64 i ∧ vj = .int .i64 j ∧ a ≤ i ∧ i ≤ j ∧ j ≤ m ∧ j - i ≤ g1 ∧ wr = (putRow enc w blk off dk).drewN q1 ∧ Hid (bsL (fun c => !(decide (cf dk[p - c]! dk[c]! < 0))) i j = bsL (fun c => !(decide (cf dk[p - c]! dk[c]! < 0))) a m))
    case atStart =>
      have h1 := HM.out
      have h2 := HN.out
      exact ⟨a, m, q, rfl, rfl, Nat.le_refl _, by omega, Nat.le_refl _, by omega, rfl, rfl⟩
    case round =>
      obtain ⟨i, j, q1, rfl, rfl, hai, hij, hjm, hg1, rfl, HB⟩ := hrel
      by_cases hlt : i < j
      · have hltz : (i : Int) < (j : Int) := by omega
        obtain ⟨h, hh⟩ : ∃ h, h = (i + j) / 2 := ⟨_, rfl⟩
        have eh : Hid (((i : Int) + (j : Int)) / 2 = (h : Int)) := (by show _ = _; omega)
        have hih : i ≤ h := by omega
        have hhj : h < j := by omega
        obtain ⟨pc, hpc⟩ : ∃ x, x + h = p := ⟨p - h, by have h1 := HM.out; have h2 := HN.out; have h3 := HP.out; omega⟩
        have hpb : pc < b := by
          have h1 := HM.out
          have h2 := HN.out
          have h3 := HP.out
          omega
        have epc : Hid ((p : Int) - (h : Int) = (pc : Int)) := (by show _ = _; omega)
        have wpc : IntKind.i64.wrap ((p : Int) - (h : Int)) = (pc : Int) := by rw [IntKind.wrap_i64]; omega
        have hpc2 : p - h = pc := by omega
        have hhb : h < b := by have h1 := HM.out; omega
        obtain ⟨xh, hxh⟩ : ∃ x, dk[h]! = x := ⟨_, rfl⟩
        obtain ⟨xa, hxa⟩ : ∃ x, dk[pc]! = x := ⟨_, rfl⟩
        have hHk := holds_putRow enc w blk off d dk HH.out hs
        obtain ⟨ch, fh⟩ := hHk h (by omega)
        obtain ⟨ca, fa⟩ := hHk pc (by omega)
        rw [hxh] at ch
        rw [hxa] at ca
        have zh : (h : Int) < (d.size : Int) := by omega
        have za : (pc : Int) < (d.size : Int) := by omega
        have ph : (0 : Int) ≤ (h : Int) := by omega
        have pa : (0 : Int) ≤ (pc : Int) := by omega
        have hh2 : ((h : Int)).toNat = h := by omega
        have ha2 : ((pc : Int)).toNat = pc := by omega
        have ch' : ((putRow enc w blk off dk).drewN q1).cell? ⟨blk, off + h, none⟩ = some (enc xh) := ch
        have ca' : ((putRow enc w blk off dk).drewN q1).cell? ⟨blk, off + pc, none⟩ = some (enc xa) := ca
        have hc := HC.out dk xa xh hs q1
        have HHH : Hid (h = (i + j) / 2) := hh
        have HPC : Hid (p - h = pc) := hpc2
        clear hHk ch ca fh fa hh hpc hpc2
        go_wp2
        rw [eh.out]
        generalize hwq : (putRow enc w blk off dk).drewN q1 = wq at ch' ca' hc ⊢
        by_cases hlv : ¬ cf xa xh < 0
        · have hlz : decide (cf xa xh < 0) = false := decide_eq_false hlv
          go_wp2_with fail
          go_quiet (first | (go_at_fn g; refine Calls.quiet_of (hc _)))
          go_wp2_with fail
          go_roundg (j - (h + 1))
          case measure => omega
          case rel =>
            refine ⟨h + 1, j, q1 + nq, by go_num, rfl, by omega, by omega, hjm, Nat.le_refl _, by rw [← hwq, World.drewN_drewN], (show _ = _ from ?_)⟩
            rw [← HB.out, bsL.eq_1 _ i j, if_pos hlt, ← HHH.out, if_pos (by rw [HPC.out, hxh, hxa]; simpa using hlv)]
        · have hlv := Decidable.not_not.1 hlv
          have hlz : decide (cf xa xh < 0) = true := decide_eq_true hlv
          go_wp2_with fail
          go_quiet (first | (go_at_fn g; refine Calls.quiet_of (hc _)))
          go_wp2_with fail
          go_roundg (h - i)
          case measure => omega
          case rel =>
            refine ⟨i, h, q1 + nq, rfl, rfl, hai, hih, by omega, Nat.le_refl _, by rw [← hwq, World.drewN_drewN], (show _ = _ from ?_)⟩
            rw [← HB.out, bsL.eq_1 _ i j, if_pos hlt, ← HHH.out, if_neg (by rw [HPC.out, hxh, hxa]; simpa using hlv)]
      · have hltz : ¬ (i : Int) < (j : Int) := by omega
        obtain rfl : i = j := by omega
        have hsy : Hid (symS cf dk a m b = i) := by
          show _ = _
          have h1 := HM.out
          have h2 := HN.out
          have h3 := HP.out
          have e1 : (a + b) / 2 + m - 1 = p := by omega
          have e2 := HB.out
          rw [bsL, if_neg (by omega)] at e2
          unfold symS
          rw [e1, if_neg (by omega), if_neg (by omega)]
          exact e2.symm
        clear HB hg1
        obtain ⟨e, hen⟩ : ∃ x, x + i = n := ⟨n - i, by have h1 := HM.out; have h2 := HN.out; omega⟩
        have wen : IntKind.i64.wrap ((n : Int) - (i : Int)) = (e : Int) := by rw [IntKind.wrap_i64]; omega
        have hei : e + i = mid + m := by have := HN.out; omega
        have hEN : Hid (e + i = mid + m) := hei
        have hmid2 := HM.out
        have he1 : (i < m ∧ m < e) ↔ (i < m ∧ i < mid) := by omega
        have heb : a ≤ i := hai
        have hbe : e ≤ b := by
          have h2 := HN.out
          omega
        by_cases x1 : (i : Int) < (m : Int) <;> by_cases x2 : (m : Int) < (e : Int) <;> by_cases x3 : (a : Int) < (i : Int) <;> by_cases x6 : (e : Int) < (b : Int) <;> first
          | (exfalso; omega)
          | (have x4 : ((i : Int) < (mid : Int)) = ((m : Int) < (e : Int)) := by (apply propext; omega)
             have x5 : ((mid : Int) < (e : Int)) = ((i : Int) < (m : Int)) := by (apply propext; omega)
             clear hen hei he1 hmid2
             go_wp2_with (first
               | (go_at_call 99; (with_reducible refine (rotate_at enc hO blk off cap d dk i m e _ _ w HH.out hs (by omega) (by omega) (by omega) hsz).mono ?_); rintro e' w' ⟨rfl, q3, rfl⟩)
               | (go_at_call 85; (with_reducible refine (HI.out a i mid _ _ (by have := HM.out; omega) (by omega) (by have := hEN.out; omega) (by omega) (by first | exact hs | exact (yT ..).trans hs)).mono ?_); rintro e' w' ⟨rfl, q4, rfl⟩)
               | (go_at_call 85; (with_reducible refine (HI.out mid e b _ _ (by have := HM.out; omega) (by have := hEN.out; omega) (by omega) (by omega) (by first | exact hs | exact (yT ..).trans hs | exact (uz cf _ _ _ _ _ (Nat.le_refl _)).trans hs | exact (uz cf _ _ _ _ _ (Nat.le_refl _)).trans ((yT ..).trans hs))).mono ?_); rintro e' w' ⟨rfl, q5, rfl⟩))
             go_end0
             refine ⟨rfl, _, congrArg (fun X => (putRow enc w blk off X).drewN _) ?_⟩
             have hE := hEN.out
             have hmid2 := HM.out
             rw [symA_step cf dk a m b (by omega) (by omega), hsy.out, ← hmid2, show mid + m - i = e by omega]
             (first | rw [if_pos (show mid < e ∧ e < b ∧ a < mid by omega)] | rw [if_neg (show ¬ (mid < e ∧ e < b ∧ a < mid) by omega)])
             (first | rw [if_pos (show a < i ∧ i < mid ∧ mid < b by omega)] | rw [if_neg (show ¬ (a < i ∧ i < mid ∧ mid < b) by omega)])
             (first | rw [if_pos (show i < m ∧ m < e by omega)] | rw [if_neg (show ¬ (i < m ∧ m < e) by omega)]))
end Go.Proofs.YtaihfoihlbileaaGreatDoor.R6
namespace Go.Proofs
open Go.Shelf
def Tryz.lf20_debt_ren : Go.Shelf.Ren := ⟨fun | 20 => 84 | n => n, fun | 24 => 60 | 22 => 57 | 3 => 3 | 25 => 85 | 4 => 4 | 0 => 0 | n => n, fun | n => n⟩
theorem Tryz.lf20_debt : Go.Proofs.SlLaysF.n20 Tryz.prog Tryz.lf20_debt_ren := {
 mixed := by kernel_rfl
 f20 := ⟨Tryz.f84.name, by decide, Tryz.func84.trans (congrArg some (by kernel_rfl))⟩
 t0 := Tryz.underlying0
 a0 := Tryz.isAgg0
 z0 := Tryz.sizeOf0
 v0 := Tryz.zeroValue0
 t3 := Tryz.underlying3
 a3 := Tryz.isAgg3
 z3 := Tryz.sizeOf3
 v3 := Tryz.zeroValue3
 t4 := Tryz.underlying4
 a4 := Tryz.isAgg4
 z4 := Tryz.sizeOf4
 v4 := Tryz.zeroValue4
 t22 := Tryz.underlying57
 a22 := Tryz.isAgg57
 z22 := Tryz.sizeOf57
 v22 := Tryz.zeroValue57
 a24 := Tryz.isAgg60
 z24 := Tryz.sizeOf60
 t25 := Tryz.underlying85
 a25 := Tryz.isAgg85
 z25 := Tryz.sizeOf85
 v25 := Tryz.zeroValue85 }
end Go.Proofs
namespace Go.Proofs.YtaihfoihlbileaaGreatDoor.R6
open Go Go.Proofs Go.Shelf Go.RowKit Go.Lib Go.Sort
variable {α : Type} [Inhabited α]
theorem cmpReads_again {g : Nat} {cb : Array Value} {enc : α → Value} {cf : α → α → Int} {blk off : Nat} {d dk : Array α} {w : World} (q : Nat) (hs : dk.size = d.size) (hcmp : CmpReads Tryz.prog g cb enc cf blk off d.size w) : CmpReads Tryz.prog g cb enc cf blk off dk.size ((putRow enc w blk off dk).drewN q) := by
 intro m os X hX x y
 have h := hcmp (q + m) os X (hX.trans hs) x y
 have e : sortWorld enc ((putRow enc w blk off dk).drewN q) blk off m X os = sortWorld enc w blk off (q + m) X os := by
  show grow ((putRow enc ((putRow enc w blk off dk).drewN q) blk off X).drewN m) os = grow ((putRow enc w blk off X).drewN (q + m)) os
  rw [uM _ _ _ _ _ _ _ _ hX]
 rw [e]
 exact h
theorem insInner_size (lt : α → α → Bool) (a : Nat) : ∀ (j : Nat) (d : Array α), (insInner lt a j d).size = d.size
 | 0, d => rfl
 | j + 1, d => by
  unfold insInner
  split
  ·rw [insInner_size lt a j, size_swp]
  ·rfl
theorem insOuter_size (lt : α → α → Bool) (a b : Nat) : ∀ (n i : Nat) (d : Array α), b - i ≤ n → (insOuter lt a b i d).size = d.size := by
 intro n
 induction n with
 | zero =>
  intro i d h
  rw [insOuter_stop _ _ _ _ _ (by omega)]
 | succ n ih =>
  intro i d h
  by_cases hi : i < b
  ·rw [insOuter_go _ _ _ _ _ hi, ih _ _ (by omega), insInner_size]
  ·rw [insOuter_stop _ _ _ _ _ hi]
theorem xP (lt : α → α → Bool) (d : Array α) (a b : Nat) : (insertionSort lt d a b).size = d.size := insOuter_size lt a b _ _ d (Nat.le_refl _)
section
variable (enc : α → Value) (hO : OneCell enc) (cf : α → α → Int) (g : Nat) (cb : Array Value) (blk off cap : Nat) (d : Array α) (w : World) (eg : ∀ args w, (callFunc g args).run Tryz.prog w = .ok (.enter g args) w) (hcmp : CmpReads Tryz.prog g cb enc cf blk off d.size w) (hH : Holds enc w blk off d) (hsz : d.size < 2305843009213693952)
include hO eg hcmp hH hsz
theorem symMerge_at : ∀ (N a m b q : Nat) (dk : Array α), b - a ≤ N → a < m → m < b → b ≤ d.size → dk.size = d.size → Calls Tryz.prog 85 #[.slice (some ⟨blk, off, none⟩) d.size cap, .int .i64 a, .int .i64 m, .int .i64 b, .func (.func g) #[] cb] ((putRow enc w blk off dk).drewN q) fun e w' => e = .returned (.tuple #[]) ∧ ∃ q, w' = (putRow enc w blk off (symA cf dk a m b)).drewN q := by
 intro N
 induction N with
 | zero =>
  intro a m b q dk h ha hm hb hs
  omega
 | succ N ih =>
  intro a m b q dk h ha hm hb hs
  by_cases h1 : m = a + 1
  ·have := symMerge_left enc hO cf g cb blk off cap d dk a m b q w eg hcmp hH hs h1 hm hb (by omega)
   rw [symA, if_pos (by omega)]
   exact this
  ·by_cases h2 : b = m + 1
   ·have := symMerge_right enc hO cf g cb blk off cap d dk a m b q w eg hcmp hH hs h2 (by omega) hb (by omega)
    rw [symA, if_neg (by omega), if_pos (by omega)]
    exact this
   ·exact symMerge_step enc hO cf g cb blk off cap d dk a m b q w eg hcmp hH hs (by omega) (by omega) hb (by omega) (fun a' m' b' q' dk' h3 h4 h5 h6 h7 => ih a' m' b' q' dk' (by omega) h4 h5 h6 h7)
theorem insertion_at (a b q : Nat) (dk : Array α) (hab : a ≤ b) (hb : b ≤ d.size) (hs : dk.size = d.size) : Calls Tryz.prog 84 #[.slice (some ⟨blk, off, none⟩) d.size cap, .int .i64 a, .int .i64 b, .func (.func g) #[] cb] ((putRow enc w blk off dk).drewN q) fun e w' => e = .returned (.tuple #[]) ∧ ∃ q, w' = (putRow enc w blk off (insertionSort (ltOf cf) dk a b)).drewN q := by
 have h := Any.insertionSortCmpFunc_one Tryz.lf20_debt enc hO cf g cb blk off cap a b dk ((putRow enc w blk off dk).drewN q) eg (cmpReads_again q hs hcmp) (holds_again enc w blk off d dk q hH hs) hab (by omega) (by omega)
 rw [hs] at h
 refine h.mono fun e w' ⟨he, n, hw⟩ => ⟨he, q + n, ?_⟩
 rw [hw, uM _ _ _ _ _ _ _ _ (xP ..)]
end
end Go.Proofs.YtaihfoihlbileaaGreatDoor.R6
namespace Go.Proofs.YtaihfoihlbileaaGreatDoor.R6
open Go Go.Proofs Go.Shelf Go.RowKit Go.Lib Go.Sort
variable {α : Type} [Inhabited α]
theorem insB_size (cf : α → α → Int) (n : Nat) : ∀ (k a : Nat) (d : Array α), n - a ≤ k → (insB cf n a d).size = d.size := by
 intro k
 induction k with
 | zero =>
  intro a d h
  rw [insB, if_neg (by omega), xP]
 | succ k ih =>
  intro a d h
  rw [insB]
  split
  ·rw [ih _ _ (by omega), xP]
  ·rw [xP]
theorem mrgB_size (cf : α → α → Int) (bs n : Nat) : ∀ (k a : Nat) (d : Array α), n - a ≤ k → (mrgB cf bs n a d).size = d.size := by
 intro k
 induction k with
 | zero =>
  intro a d h
  rw [mrgB, if_neg (by omega), if_neg (by omega)]
 | succ k ih =>
  intro a d h
  rw [mrgB]
  split
  ·rw [ih _ _ (by omega), uz cf _ _ _ _ _ (Nat.le_refl _)]
  ·split
   ·rw [uz cf _ _ _ _ _ (Nat.le_refl _)]
   ·rfl
theorem stable_size (cf : α → α → Int) (n : Nat) : ∀ (k bs : Nat) (d : Array α), n - bs ≤ k → (uS cf n bs d).size = d.size := by
 intro k
 induction k with
 | zero =>
  intro bs d h
  rw [uS, if_neg (by omega)]
 | succ k ih =>
  intro bs d h
  rw [uS]
  split
  ·rw [ih _ _ (by omega), mrgB_size cf _ _ _ _ _ (Nat.le_refl _)]
  ·rfl
section
variable (enc : α → Value) (hO : OneCell enc) (cf : α → α → Int) (g : Nat) (cb : Array Value) (blk off cap : Nat) (d : Array α) (w : World) (eg : ∀ args w, (callFunc g args).run Tryz.prog w = .ok (.enter g args) w) (hcmp : CmpReads Tryz.prog g cb enc cf blk off d.size w) (hH : Holds enc w blk off d) (hsz : d.size < 2305843009213693952)
include hO eg hcmp hH hsz
theorem stable_calls : Calls Tryz.prog 66 #[.slice (some ⟨blk, off, none⟩) d.size cap, .int .i64 d.size, .func (.func g) #[] cb] w fun e w' => e = .returned (.tuple #[]) ∧ ∃ q, w' = (putRow enc w blk off (yR cf d)).drewN q := by
 have HI : Aside _ := fun a b q dk hab hb hs => insertion_at enc hO cf g cb blk off cap d w eg hcmp hH hsz a b q dk hab hb hs
 have HSM : Aside _ := fun a m b q dk ha hm hb hs => symMerge_at enc hO cf g cb blk off cap d w eg hcmp hH hsz (b - a) a m b q dk (Nat.le_refl _) ha hm hb hs
 have HST : Hid (w = (putRow enc w blk off d).drewN 0) := (putRow_self enc w blk off d hH).symm
 obtain ⟨n, hn⟩ : ∃ n, n = d.size := ⟨_, rfl⟩
 have HN : Hid (n = d.size) := hn
 have hnz : n < 2305843009213693952 := by omega
 rw [← hn] at HI HSM ⊢
 clear hcmp hH hn hsz
 go_enter Tryz.func66, Tryz.ntmps66
 go_wp2
 go_loopg [7, 8] n (fun g1 va vb wr => ∃ (a b q1 : Nat) (dk : Array α), va = .int .i64 a ∧ vb = .int .i64 b ∧ Hid (b = a + 20) ∧ a ≤ n ∧ n - a ≤ g1 ∧ Hid (dk.size = n) ∧ wr = (putRow enc w blk off dk).drewN q1 ∧ Hid (insB cf n a dk = insB cf n 0 d))
 case atStart => exact ⟨0, 20, 0, d, by go_num, by go_num, rfl, by omega, by omega, HN.out.symm, HST.out, rfl⟩
 case round =>
  obtain ⟨a, b, q1, dk, rfl, rfl, HB, han, hg1, HS, rfl, HR⟩ := hrel
  have hab : a < b := by have := HB.out; omega
  by_cases hlt : b ≤ n
  ·have hltz : (b : Int) ≤ (n : Int) := by omega
   go_wp2_with (go_at_call 84; (with_reducible refine (HI.out a b q1 dk (by omega) (by have := HN.out; omega) HS.out).mono ?_); rintro e' w' ⟨rfl, q2, rfl⟩)
   go_roundg (n - b)
   case measure => omega
   case rel =>
    refine ⟨b, b + 20, q2, insertionSort (ltOf cf) dk a b, rfl, by go_num, rfl, hlt, Nat.le_refl _, (show _ = _ from (xP ..).trans HS.out), rfl, (show _ = _ from ?_)⟩
    have hb := HB.out
    rw [← HR.out, insB.eq_1 cf n a, if_pos (by omega), hb]
  ·have hltz : ¬ (b : Int) ≤ (n : Int) := by omega
   go_wp2_with (go_at_call 84; (with_reducible refine (HI.out a n q1 dk (by omega) (by have := HN.out; omega) HS.out).mono ?_); rintro e' w' ⟨rfl, q2, rfl⟩)
   have HI0 : Hid (insertionSort (ltOf cf) dk a n = insB cf n 0 d) := by
    show _ = _
    have hb := HB.out
    rw [← HR.out, insB.eq_1 cf n a, if_neg (by omega)]
   have HS2 : Hid ((insertionSort (ltOf cf) dk a n).size = n) := (xP ..).trans HS.out
   generalize insertionSort (ltOf cf) dk a n = d1 at HI0 HS2 ⊢
   clear HR HS HB hltz hlt hab han hg1
   go_loopg [6] n (fun g2 vs wr => ∃ (bs q3 : Nat) (dj : Array α), vs = .int .i64 bs ∧ 0 < bs ∧ bs ≤ n + n + 20 ∧ n - bs ≤ g2 ∧ Hid (dj.size = n) ∧ wr = (putRow enc w blk off dj).drewN q3 ∧ Hid (uS cf n bs dj = uS cf n 20 d1))
   case atStart => exact ⟨20, q2, d1, by go_num, by omega, by omega, by omega, HS2, rfl, rfl⟩
   case round =>
    obtain ⟨bs, q3, dj, rfl, hbs0, hbs1, hg2, HSJ, rfl, HM⟩ := hrel
    by_cases hlt : bs < n
    ·have hltz : (bs : Int) < (n : Int) := by omega
     go_wp2
     go_loopg [7, 8] n (fun g3 va vb wr => ∃ (a b q4 : Nat) (dm : Array α), va = .int .i64 a ∧ vb = .int .i64 b ∧ Hid (b = a + 2 * bs) ∧ a ≤ n ∧ n - a ≤ g3 ∧ Hid (dm.size = n) ∧ wr = (putRow enc w blk off dm).drewN q4 ∧ Hid (mrgB cf bs n a dm = mrgB cf bs n 0 dj))
     case atStart => exact ⟨0, 2 * bs, q3, dj, by go_num, by first | rfl | go_num | (simp; done), (show _ = _ by omega), by omega, by omega, HSJ, rfl, rfl⟩
     case round =>
      obtain ⟨a, b, q4, dm, rfl, rfl, HB, han, hg3, HSM2, rfl, HR⟩ := hrel
      have hab : a + 2 * bs = b := HB.out.symm
      obtain ⟨m, hm⟩ : ∃ m, a + bs = m := ⟨_, rfl⟩
      have wm : IntKind.i64.wrap ((a : Int) + (bs : Int)) = (m : Int) := by rw [IntKind.wrap_i64]; omega
      have HMM : Hid (a + bs = m) := hm
      by_cases hlt2 : b ≤ n
      ·have hltz2 : (b : Int) ≤ (n : Int) := by omega
       have hc := HSM.out a m b q4 dm (by omega) (by omega) hlt2 HSM2.out
       clear hm hab
       go_wp2_with (go_at_call 85; (with_reducible refine hc.mono ?_); rintro e' w' ⟨rfl, q5, rfl⟩)
       go_roundg (n - b)
       case measure => have := HB.out; omega
       case rel =>
        have hb := HB.out
        have hm := HMM.out
        refine ⟨b, b + 2 * bs, q5, symA cf dm a m b, rfl, by first | rfl | go_num | (simp; done), rfl, hlt2, Nat.le_refl _, (show _ = _ from (uz cf _ _ _ _ _ (Nat.le_refl _)).trans HSM2.out), rfl, (show _ = _ from ?_)⟩
        rw [← HR.out, mrgB.eq_1 cf bs n a, if_pos (by omega), hm, ← hb]
      ·have hltz2 : ¬ (b : Int) ≤ (n : Int) := by omega
       by_cases hlt3 : m < n
       ·have hltz3 : (m : Int) < (n : Int) := by omega
        have hc := HSM.out a m n q4 dm (by omega) hlt3 (Nat.le_refl _) HSM2.out
        clear hm hab
        go_wp2_with (go_at_call 85; (with_reducible refine hc.mono ?_); rintro e' w' ⟨rfl, q5, rfl⟩)
        go_roundg (n - bs * 2)
        case measure => omega
        case rel =>
         have hb := HB.out
         have hm := HMM.out
         refine ⟨bs * 2, q5, symA cf dm a m n, by first | rfl | go_num | (simp; done), by omega, by omega, Nat.le_refl _, (show _ = _ from (uz cf _ _ _ _ _ (Nat.le_refl _)).trans HSM2.out), rfl, (show _ = _ from ?_)⟩
         rw [← HM.out, uS.eq_1 cf n bs dj, if_pos ⟨hbs0, hlt⟩, ← HR.out, mrgB.eq_1 cf bs n a, if_neg (by omega), if_pos (by omega), hm]
       ·have hltz3 : ¬ (m : Int) < (n : Int) := by omega
        clear hm hab
        go_wp2
        go_roundg (n - bs * 2)
        case measure => omega
        case rel =>
         have hb := HB.out
         have hm := HMM.out
         refine ⟨bs * 2, q4, dm, by first | rfl | go_num | (simp; done), by omega, by omega, Nat.le_refl _, HSM2, rfl, (show _ = _ from ?_)⟩
         rw [← HM.out, uS.eq_1 cf n bs dj, if_pos ⟨hbs0, hlt⟩, ← HR.out, mrgB.eq_1 cf bs n a, if_neg (by omega), if_neg (by omega)]
    ·have hltz : ¬ (bs : Int) < (n : Int) := by omega
     go_wp2
     go_end0
     refine ⟨rfl, q3, ?_⟩
     have hn := HN.out
     unfold yR
     rw [← hn, ← HI0.out, ← HM.out, uS, if_neg (by omega)]
theorem sortStable_calls : Calls Tryz.prog 45 #[.slice (some ⟨blk, off, none⟩) d.size cap, .func (.func g) #[] cb] w fun e w' => e = .returned (.tuple #[]) ∧ ∃ q, w' = (putRow enc w blk off (yR cf d)).drewN q := by
 have h := stable_calls enc hO cf g cb blk off cap d w eg hcmp hH hsz
 clear hcmp hH
 go_enter Tryz.func45, Tryz.ntmps45
 go_wp2_with (go_at_call 66; (with_reducible refine h.mono ?_); rintro e' w' ⟨rfl, q5, rfl⟩)
 go_end0
 exact ⟨rfl, q5, rfl⟩
end
theorem stableA_size (cf : α → α → Int) (d : Array α) : (yR cf d).size = d.size := by
 unfold yR
 rw [stable_size cf _ _ _ _ (Nat.le_refl _), insB_size cf _ _ _ _ (Nat.le_refl _)]
end Go.Proofs.YtaihfoihlbileaaGreatDoor.R6
namespace Go.Proofs.YtaihfoihlbileaaGreatDoor.R6
open Go Go.Proofs Go.RowKit Go.Sort Go.Proofs.YtaihfoihlbileaaGreatDoorW.PrintWords Go.Proofs.YtaihfoihlbileaaGreatDoorW.PrintLast Go.Proofs.YtaihfoihlbileaaGreatDoorW.PrintMore
structure DS where
 nm : ByteArray
 day : Int
 units : Int
 places : Int
 days : Int
 within : Int
 disc : Int
 owes : Int
 paid : Int
 taken : Int
 done : Int
def DS.obj (x : DS) : Obj := .cells #[.string x.nm, .int .i64 x.day, .int .i64 x.units, .int .i64 x.places, .int .i64 x.days, .int .i64 x.within, .int .i64 x.disc, .int .i64 x.owes, .int .i64 x.paid, .int .i64 x.taken, .int .i64 x.done] 62 (0, 0)
def DS.last (x : DS) : Int := wrap64 (x.day + x.days)
theorem last_calls (g : Nat) (x : DS) (w : World) (HG : w.heap[g]? = some x.obj) :
  Calls Tryz.prog 47 #[.pointer (some ⟨g, 0, none⟩)] w fun e w' => e = .returned (.int .i64 x.last) ∧ w' = w.drewN 1 := by
 have c1 := uD HG
 have c4 := cellS62_4 HG
 obtain ⟨r, hr⟩ : ∃ r, r = x.last := ⟨_, rfl⟩
 have wr : IntKind.i64.wrap (x.day + x.days) = r := (i64_w _).trans hr.symm
 rw [← hr]
 clear HG hr
 go_enter Tryz.func47, Tryz.ntmps47
 go_wp2
 go_big_region
 all_goals go_wp2
 go_ret
 exact ⟨rfl, rfl⟩
theorem compare_calls (g g' : Nat) (x x' : DS) (w : World) (HG : w.heap[g]? = some x.obj) (HG' : w.heap[g']? = some x'.obj) :
  Calls Tryz.prog 46 #[.pointer (some ⟨g, 0, none⟩), .pointer (some ⟨g', 0, none⟩)] w fun e w' => e = .returned (.int .i64 (wrap64 (x.last - x'.last))) ∧ ∃ q, w' = w.drewN q := by
 have h1 := last_calls g x w HG
 have h2 := last_calls g' x' (w.drewN 1) HG'
 obtain ⟨r, hr⟩ : ∃ r, r = wrap64 (x.last - x'.last) := ⟨_, rfl⟩
 have wr : IntKind.i64.wrap (x.last - x'.last) = r := (i64_w _).trans hr.symm
 rw [← hr]
 clear HG HG' hr
 go_enter Tryz.func46, Tryz.ntmps46
 go_wp2_with (first | (go_at_call 47; (with_reducible refine h1.mono ?_); rintro e w1 ⟨rfl, rfl⟩) | (go_at_call 47; (with_reducible refine h2.mono ?_); rintro e w2 ⟨rfl, rfl⟩))
 go_ret
 exact ⟨rfl, 2, rfl⟩
def encF {n : Nat} (gs : Fin n → Nat) (i : Fin n) : Value := .pointer (some ⟨gs i, 0, none⟩)
theorem encF_one {n : Nat} (gs : Fin n → Nat) : OneCell (encF gs) := fun _ => rfl
theorem heap_sortWorld {α : Type} [Inhabited α] (enc : α → Value) (w : World) (blk off m : Nat) (X : Array α) (os : Array Obj) (g : Nat) (o : Obj) (h : w.heap[g]? = some o) (hne : g ≠ blk) : (sortWorld enc w blk off m X os).heap[g]? = some o := by
 show ((w.heap.modify blk _) ++ os)[g]? = some o
 have hlt : g < w.heap.size := (Array.getElem?_eq_some_iff.1 h).1
 rw [Array.getElem?_append_left (by simpa using hlt), Array.getElem?_modify, if_neg (Ne.symm hne)]
 exact h
theorem cmp_reads {n : Nat} [Inhabited (Fin n)] (gs : Fin n → Nat) (xs : Fin n → DS) (blk off : Nat) (w : World) (h : ∀ i, w.heap[gs i]? = some (xs i).obj) (hne : ∀ i, gs i ≠ blk) (size : Nat) :
  CmpReads Tryz.prog 46 #[] (encF gs) (fun i j => wrap64 ((xs i).last - (xs j).last)) blk off size w := by
 intro m os dk _ x y
 exact compare_calls (gs x) (gs y) (xs x) (xs y) _ (heap_sortWorld _ _ _ _ _ _ _ _ _ (h x) (hne x)) (heap_sortWorld _ _ _ _ _ _ _ _ _ (h y) (hne y))
end Go.Proofs.YtaihfoihlbileaaGreatDoor.R6
namespace Go.Proofs.YtaihfoihlbileaaGreatDoor.R6
open Go Go.Proofs Go.RowKit Go.Proofs.YtaihfoihlbileaaGreatDoorW.PrintWords Go.Proofs.YtaihfoihlbileaaGreatDoorW.PrintLast Go.Proofs.YtaihfoihlbileaaGreatDoorW.PrintMore
theorem info60 : (Tryz.prog.info? 60).map (fun i => (i.zero, i.size, i.bytes)) = some (some (.pointer none), 1, 8) := by kernel_rfl
theorem eql_nil (w : World) : Sem.run Tryz.prog (binOp BinOp.eql 57 (.slice none 0 0) (.slice none 0 0)) w = .ok (.bool true) w := by kernel_rfl
theorem eql_some (a : Addr) (n cap : Nat) (w : World) : Sem.run Tryz.prog (binOp BinOp.eql 57 (.slice (some a) n cap) (.slice none 0 0)) w = .ok (.bool false) w := by kernel_rfl
theorem clone_nil (w : World) : Calls Tryz.prog 44 #[.slice none 0 0] w fun e w' => e = .returned (.slice none 0 0) ∧ w' = w := by
 have hq := eql_nil
 go_enter Tryz.func44, Tryz.ntmps44
 go_wp2
 go_ret
 exact ⟨rfl, rfl⟩
theorem clone_calls (blk cap n : Nat) (xs : List Value) (w : World) (hc : ∀ j u, xs[j]? = some u → w.cell? ⟨blk, j, none⟩ = some u) (hl : xs.length = n) (h1 : ∀ u ∈ xs, u.oneCell' = true) (hn : n ≤ 1000) :
  Calls Tryz.prog 44 #[.slice (some ⟨blk, 0, none⟩) n cap] w fun e w' => ∃ v', e = .returned v' ∧ w'.ownsRow w.heap.size 60 1 v' n xs ∧ v' ≠ .slice none 0 0 ∧ Below w.heap.size w w' := by
 obtain ⟨i0, hi, hzz⟩ := Option.map_eq_some_iff.1 info60
 simp only [Prod.mk.injEq] at hzz
 obtain ⟨hz0, hz1, hz2⟩ := hzz
 have hq := eql_some ⟨blk, 0, none⟩ n cap
 go_enter Tryz.func44, Tryz.ntmps44
 have hown : (w.alloc (.cells #[] 60)).ownsRow w.heap.size 60 1 (.slice (some ⟨w.heap.size, 0, none⟩) 0 0) 0 [] := ⟨rfl, .inr ⟨w.heap.size, 0, #[], rfl, Nat.le_refl _, heap_alloc_new w _, Nat.le_refl _, by decide, rfl, rfl⟩⟩
 have hc2 : ∀ j u, xs[j]? = some u → (w.alloc (.cells #[] 60)).cell? ((⟨blk, 0, none⟩ : Addr).add j) = some u := by
  intro j u hu
  have h2 := hc j u hu
  have e : (⟨blk, 0, none⟩ : Addr).add j = ⟨blk, j, none⟩ := by
   unfold Addr.add
   by_cases hj : j = 0 <;> simp [hj]
  rw [e, World.cell?_alloc_lt (h := World.block_lt_of_cell? w _ h2)]
  exact h2
 go_wp2_with (at_builtin; refine wpList_append_own _ rfl _ _ 57 rfl w.heap.size 60 i0 (.pointer none) 1 8 Tryz.underlying57 hi hz0 hz1 hz2 rfl (by decide) _ 0 [] rfl hown ⟨blk, 0, none⟩ n cap xs rfl (by rw [hl, Nat.mul_one]) hc2 h1 (by unfold maxLen; omega) (by omega) (by simp) ?_; intro v' w1 hown1 hg1 hnil)
 go_ret
 refine ⟨v', rfl, by simpa using hown1, ?_, ?_⟩
 ·intro e
  cases (hnil.1 e).1
 ·refine Below.grown ((Below.refl _ _).alloc (Nat.le_refl _) _) hg1 (by simp) ?_
  intro b hb
  exact Nat.le_of_eq (Option.some.inj hb)
end Go.Proofs.YtaihfoihlbileaaGreatDoor.R6
namespace Go.Proofs.YtaihfoihlbileaaGreatDoor.R6
open Go Go.Proofs Go.RowKit Go.Sort Go.Shelf Go.Lib Go.Proofs.YtaihfoihlbileaaGreatDoorW.PrintWords Go.Proofs.YtaihfoihlbileaaGreatDoorW.PrintLast Go.Proofs.YtaihfoihlbileaaGreatDoorW.PrintMore
def encP (g : Nat) : Value := .pointer (some ⟨g, 0, none⟩)
def ordA (ls : Nat → Int) : Nat → List Nat
 | 0 => []
 | m + 1 => (yR (fun i j : Fin (m + 1) => wrap64 (ls i - ls j)) (Array.ofFn (fun i : Fin (m + 1) => i))).toList.map (·.val)
theorem clone_any (w : World) (base n : Nat) (v : Value) (xs : List Value) (h : w.ownsRow base 60 1 v n xs) (h1 : ∀ u ∈ xs, u.oneCell' = true) (hn : n ≤ 1000) (hnil : n = 0 → v = .slice none 0 0) :
  Calls Tryz.prog 44 #[v] w fun e w' => ∃ v', e = .returned v' ∧ w'.ownsRow w.heap.size 60 1 v' n xs ∧ Below w.heap.size w w' ∧ (n = 0 → v' = .slice none 0 0) := by
 rcases h.2 with ⟨rfl, rfl⟩ | ⟨g, cap, cur, rfl, hg, hb, hnc, hcm, hcs, ht⟩
 ·refine (clone_nil w).mono ?_
  rintro e w' ⟨rfl, rfl⟩
  exact ⟨_, rfl, ⟨h.1, .inl ⟨rfl, rfl⟩⟩, Below.refl _ _, fun _ => rfl⟩
 ·have hn0 : n ≠ 0 := fun e => by cases hnil e
  refine (clone_calls g cap n xs w (fun j u hu => ?_) (by have := h.1; omega) h1 hn).mono ?_
  ·have hj : j < n * 1 := by
    have := (List.getElem?_eq_some_iff.1 hu).1
    have := h.1
    omega
   rw [World.ownsRow.cellAt h j hj]
   exact hu
  ·rintro e w' ⟨v', rfl, h2, h3, h4⟩
   exact ⟨v', rfl, h2, h4, fun e => absurd e hn0⟩
theorem sort_nil (w : World) : Calls Tryz.prog 45 #[.slice none 0 0, .func (.func 46) #[] #[]] w fun e w' => e = .returned (.tuple #[]) ∧ w' = w := by
 have h1 : Calls Tryz.prog 84 #[.slice none 0 0, .int .i64 0, .int .i64 0, .func (.func 46) #[] #[]] w fun e w' => e = .returned (.tuple #[]) ∧ w' = w := by
  go_enter Tryz.func84, Tryz.ntmps84
  go_wp2
  go_loopg [8] 0 (fun g1 vi wr => vi = .int .i64 1 ∧ wr = w)
  case atStart => exact ⟨rfl, rfl⟩
  case round =>
   obtain ⟨rfl, rfl⟩ := hrel
   go_wp2
   go_end0
   exact ⟨rfl, rfl⟩
 have h2 : Calls Tryz.prog 66 #[.slice none 0 0, .int .i64 0, .func (.func 46) #[] #[]] w fun e w' => e = .returned (.tuple #[]) ∧ w' = w := by
  go_enter Tryz.func66, Tryz.ntmps66
  go_wp2
  go_loopg [7, 8] 0 (fun g1 va vb wr => va = .int .i64 0 ∧ vb = .int .i64 20 ∧ wr = w)
  case atStart => exact ⟨rfl, rfl, rfl⟩
  case round =>
   obtain ⟨rfl, rfl, rfl⟩ := hrel
   go_wp2_with (go_at_call 84; (with_reducible refine h1.mono ?_); rintro e' w' ⟨rfl, rfl⟩)
   go_loopg [6] 0 (fun g1 vi wr => vi = .int .i64 20 ∧ wr = w')
   case atStart => exact ⟨rfl, rfl⟩
   case round =>
    obtain ⟨rfl, rfl⟩ := hrel
    go_wp2
    go_end0
    exact ⟨rfl, rfl⟩
 go_enter Tryz.func45, Tryz.ntmps45
 go_wp2_with (go_at_call 66; (with_reducible refine h2.mono ?_); rintro e' w' ⟨rfl, rfl⟩)
 go_end0
 exact ⟨rfl, rfl⟩
theorem sort_any (base : Nat) : ∀ (n : Nat) (gs : List Nat) (_ : gs.length = n) (_ : n ≤ 1000) (X : Nat → DS) (w : World) (v : Value) (_ : w.ownsRow base 60 1 v n (gs.map encP)) (_ : ∀ j g, gs[j]? = some g → w.heap[g]? = some (X j).obj) (_ : n = 0 → v = .slice none 0 0),
  Calls Tryz.prog 45 #[v, .func (.func 46) #[] #[]] w fun e w' => e = .returned (.tuple #[]) ∧ w'.ownsRow base 60 1 v n ((ordA (fun j => (X j).last) n).map fun j => encP (gs.getD j 0)) ∧ w.grownBy w' v.ownBlock := by
 intro n gs hl hn X w v hown hobj hnil
 cases n with
 | zero =>
  obtain rfl := hnil rfl
  refine (sort_nil w).mono ?_
  rintro e w' ⟨rfl, rfl⟩
  exact ⟨rfl, ⟨rfl, .inl ⟨rfl, rfl⟩⟩, ⟨rfl, rfl, rfl, Nat.le_refl _, fun _ _ _ => rfl⟩⟩
 | succ m =>
  rcases hown.2 with ⟨_, h0⟩ | ⟨blk, cap, cur, rfl, hg, hb, hnc, hcm, hcs, ht⟩
  ·cases h0
  have hgs : ∀ j : Fin (m + 1), gs[j.val]? = some (gs.getD j.val 0) := fun j => by
   rw [List.getD_eq_getElem?_getD, List.getElem?_eq_getElem (by have := j.2; omega)]
   rfl
  have hne : ∀ j : Fin (m + 1), gs.getD j.val 0 ≠ blk := fun j e => by
   have h1 := hobj _ _ (hgs j)
   rw [e, hb] at h1
   have h2 := Option.some.inj h1
   unfold DS.obj at h2
   injection h2 with _ h3 _
   exact absurd h3 (by decide)
  have hc := cmp_reads (n := m + 1) (fun j => gs.getD j.val 0) (fun j => X j.val) blk 0 w (fun j => hobj _ _ (hgs j)) hne (m + 1)
  have hds : (Array.ofFn (fun i : Fin (m + 1) => i)).size = m + 1 := Array.size_ofFn
  have hH : Holds (encF (n := m + 1) (fun j => gs.getD j.val 0)) w blk 0 (Array.ofFn (fun i : Fin (m + 1) => i)) := by
   intro j hj
   rw [hds] at hj
   refine ⟨?_, World.ownsRow.frozenAt hown _⟩
   rw [Nat.zero_add, World.ownsRow.cellAt hown j (by omega), List.getElem?_map, hgs ⟨j, hj⟩, getElem!_pos _ j (by rw [hds]; exact hj), Array.getElem_ofFn]
   rfl
  have hs := sortStable_calls (encF (n := m + 1) (fun j => gs.getD j.val 0)) (encF_one _) (fun i j => wrap64 ((X i.val).last - (X j.val).last)) 46 #[] blk 0 cap (Array.ofFn (fun i : Fin (m + 1) => i)) w (fun _ _ => rfl) (by rw [hds]; exact hc) hH (by rw [hds]; omega)
  rw [hds] at hs
  refine hs.mono ?_
  rintro e w' ⟨rfl, q, rfl⟩
  have hAs := (stableA_size (fun i j : Fin (m + 1) => wrap64 ((X i.val).last - (X j.val).last)) (Array.ofFn (fun i : Fin (m + 1) => i))).trans hds
  refine ⟨rfl, ?_, ⟨rfl, rfl, rfl, ?_, ?_⟩⟩
  ·rw [show ordA (fun j => (X j).last) (m + 1) = (yR (fun i j : Fin (m + 1) => wrap64 ((X i.val).last - (X j.val).last)) (Array.ofFn (fun i : Fin (m + 1) => i))).toList.map (·.val) from rfl]
   generalize yR (fun i j : Fin (m + 1) => wrap64 ((X i.val).last - (X j.val).last)) (Array.ofFn (fun i : Fin (m + 1) => i)) = A at hAs ⊢
   refine ⟨by simp [hAs], .inr ⟨blk, cap, putCells (encF (n := m + 1) (fun j => gs.getD j.val 0)) 0 A cur, rfl, hg, ?_, hnc, hcm, by simp [putCells, hcs], ?_⟩⟩
   ·show (w.heap.modify blk _)[blk]? = _
    rw [Array.getElem?_modify, if_pos rfl, hb]
    rfl
   ·apply List.ext_getElem?
    intro j
    rw [List.getElem?_take]
    by_cases hj : j < (m + 1) * 1
    ·rw [if_pos hj]
     have hj2 : j < A.size := by omega
     have hj3 : j < cur.size := by have : (m + 1) * 1 ≤ cap * 1 := Nat.mul_le_mul_right 1 hnc; omega
     simp only [putCells, Array.getElem?_toList, Array.getElem?_mapIdx, List.getElem?_map, Array.getElem?_eq_getElem hj3, Array.getElem?_eq_getElem hj2, Option.map_some]
     rw [if_pos ⟨Nat.zero_le _, by omega⟩, Nat.sub_zero, getElem!_pos A j hj2]
     rfl
    ·rw [if_neg hj]
     symm
     rw [List.getElem?_eq_none]
     simp [hAs]
     omega
  ·show _ ≤ (w.heap.modify blk _).size
   rw [Array.size_modify]
   exact Nat.le_refl _
  ·intro k hk hne2
   show (w.heap.modify blk _)[k]? = _
   rw [Array.getElem?_modify, if_neg (fun e => hne2 (congrArg some e.symm))]
end Go.Proofs.YtaihfoihlbileaaGreatDoor.R6
namespace Go.Proofs.YtaihfoihlbileaaGreatDoor.R6
open Go Go.Proofs Go.RowKit Go.Proofs.YtaihfoihlbileaaGreatDoorW.PrintWords Go.Proofs.YtaihfoihlbileaaGreatDoorW.PrintLast Go.Proofs.YtaihfoihlbileaaGreatDoorW.PrintMore
attribute [local go_sem] vB vv yV yK xL xH vw vz
theorem pay_calls (g : Nat) (nm : ByteArray) (s1 s2 s3 s4 s5 s6 owes paid taken done left day : Int) (w0 w : World) (hI : IsS62 w0 w g nm s1 s2 s3 s4 s5 s6 owes paid taken done) (hB : Below w0.heap.size w0 w) :
  Calls Tryz.prog 49 #[.pointer (some ⟨g, 0, none⟩), .int .i64 left, .int .i64 day] w fun e w' => e = .returned (.int .i64 (wrap64 (left - mn left owes))) ∧ IsS62 w0 w' g nm s1 s2 s3 s4 s5 s6 (wrap64 (owes - mn left owes)) (wrap64 (paid + mn left owes)) taken (if wrap64 (owes - mn left owes) = 0 then day else done) ∧ Below w0.heap.size w0 w' ∧ jB w w' g none := by
 obtain ⟨HG, hg⟩ := hI
 have c1 := yC HG
 have c2 := kQ HG
 have c4 := yP HG
 have f1 := qz HG 7
 have f2 := qz HG 8
 have f4 := qz HG 10
 have hne : (⟨g, 8, none⟩ : Addr) ≠ ⟨g, 7, none⟩ := fun e => absurd (show (8 : Nat) = 7 from congrArg Addr.off e) (by decide)
 by_cases hlt : owes < left
 ·have en : mn left owes = owes := by unfold mn; rw [if_pos hlt]
  rw [en]
  obtain ⟨p, hp⟩ : ∃ p, p = wrap64 (paid + owes) := ⟨_, rfl⟩
  have ho : wrap64 (owes - owes) = 0 := by rw [Int.sub_self]; unfold wrap64; omega
  obtain ⟨r, hr⟩ : ∃ r, r = wrap64 (left - owes) := ⟨_, rfl⟩
  rw [← hp, ho, ← hr]
  have wp : IntKind.i64.wrap (paid + owes) = p := (i64_w _).trans hp.symm
  have wr : IntKind.i64.wrap (left - owes) = r := (i64_w _).trans hr.symm
  have c3 : (w.setCell ⟨g, 8, none⟩ (.int .i64 p)).drew.cell? ⟨g, 7, none⟩ = some (.int .i64 owes) := (World.cell?_setCell_other (w := w) (v := .int .i64 p) (h := hne)).trans c1
  have f3 : (w.setCell ⟨g, 8, none⟩ (.int .i64 p)).drew.frozen? ⟨g, 7, none⟩ = false := (World.frozen?_setCell ..).trans f1
  have G2 : ((w.setCell ⟨g, 8, none⟩ (.int .i64 p)).setCell ⟨g, 7, none⟩ (.int .i64 (0))).drew.heap[g]? = some (.cells #[.string nm, .int .i64 s1, .int .i64 s2, .int .i64 s3, .int .i64 s4, .int .i64 s5, .int .i64 s6, .int .i64 (0), .int .i64 p, .int .i64 taken, .int .i64 done] 62 (0, 0)) := zW (zU (zU HG 8 _ rfl) 7 _ rfl)
  have B2 : Below w0.heap.size w0 ((w.setCell ⟨g, 8, none⟩ (.int .i64 p)).setCell ⟨g, 7, none⟩ (.int .i64 (0))).drew := jW (jS (jS hB hg) hg)
  have K2 : jB w ((w.setCell ⟨g, 8, none⟩ (.int .i64 p)).setCell ⟨g, 7, none⟩ (.int .i64 (0))).drew g none := ((jB.refl w g none).set_ 8 _).set_ 7 _
  clear en hp ho hr
  go_enter Tryz.func49, Tryz.ntmps49
  go_wp2
  go_big_region
  generalize ((w.setCell ⟨g, 8, none⟩ (.int .i64 p)).setCell ⟨g, 7, none⟩ (.int .i64 (0))).drew = w2 at G2 B2 K2 ⊢
  clear c1 c2 c4 f1 f2 f4 c3 f3 HG
  have c1 := yC G2
  have c4 := yP G2
  have f4 := qz G2 10
  go_wp2
  go_ret
  exact ⟨by first | rfl | (simp; done), ⟨by first | exact zU G2 10 _ rfl | (rw [if_pos rfl]; exact zU G2 10 _ rfl), hg⟩, jS B2 hg, K2.set_ 10 _⟩
 ·have en : mn left owes = left := by unfold mn; rw [if_neg hlt]
  rw [en]
  obtain ⟨p, hp⟩ : ∃ p, p = wrap64 (paid + left) := ⟨_, rfl⟩
  obtain ⟨o, ho⟩ : ∃ o, o = wrap64 (owes - left) := ⟨_, rfl⟩
  have hr : wrap64 (left - left) = 0 := by rw [Int.sub_self]; unfold wrap64; omega
  rw [← hp, ← ho, hr]
  have wp : IntKind.i64.wrap (paid + left) = p := (i64_w _).trans hp.symm
  have wo : IntKind.i64.wrap (owes - left) = o := (i64_w _).trans ho.symm
  have c3 : (w.setCell ⟨g, 8, none⟩ (.int .i64 p)).drew.cell? ⟨g, 7, none⟩ = some (.int .i64 owes) := (World.cell?_setCell_other (w := w) (v := .int .i64 p) (h := hne)).trans c1
  have f3 : (w.setCell ⟨g, 8, none⟩ (.int .i64 p)).drew.frozen? ⟨g, 7, none⟩ = false := (World.frozen?_setCell ..).trans f1
  have G2 : ((w.setCell ⟨g, 8, none⟩ (.int .i64 p)).setCell ⟨g, 7, none⟩ (.int .i64 (o))).drew.heap[g]? = some (.cells #[.string nm, .int .i64 s1, .int .i64 s2, .int .i64 s3, .int .i64 s4, .int .i64 s5, .int .i64 s6, .int .i64 (o), .int .i64 p, .int .i64 taken, .int .i64 done] 62 (0, 0)) := zW (zU (zU HG 8 _ rfl) 7 _ rfl)
  have B2 : Below w0.heap.size w0 ((w.setCell ⟨g, 8, none⟩ (.int .i64 p)).setCell ⟨g, 7, none⟩ (.int .i64 (o))).drew := jW (jS (jS hB hg) hg)
  have K2 : jB w ((w.setCell ⟨g, 8, none⟩ (.int .i64 p)).setCell ⟨g, 7, none⟩ (.int .i64 (o))).drew g none := ((jB.refl w g none).set_ 8 _).set_ 7 _
  clear en hp ho hr
  go_enter Tryz.func49, Tryz.ntmps49
  go_wp2
  go_big_region
  generalize ((w.setCell ⟨g, 8, none⟩ (.int .i64 p)).setCell ⟨g, 7, none⟩ (.int .i64 (o))).drew = w2 at G2 B2 K2 ⊢
  clear c1 c2 c4 f1 f2 f4 c3 f3 HG
  have c1 := yC G2
  have c4 := yP G2
  have f4 := qz G2 10
  by_cases hz : o = 0
  ·subst hz
   go_wp2
   go_ret
   exact ⟨by first | rfl | (simp; done), ⟨by first | exact zU G2 10 _ rfl | (rw [if_pos rfl]; exact zU G2 10 _ rfl), hg⟩, jS B2 hg, K2.set_ 10 _⟩
  ·go_wp2
   go_ret
   exact ⟨by first | rfl | (simp; done), ⟨by first | exact G2 | (rw [if_neg hz]; exact G2), hg⟩, B2, K2⟩
def uQ (dsc s1 s5 owes paid taken done left day : Int) : Int × Int × Int × Int × Int :=
 if wrap64 (owes - dsc) > left ∨ day > wrap64 (s1 + s5) then (wrap64 (left - mn left owes), wrap64 (owes - mn left owes), wrap64 (paid + mn left owes), taken, if wrap64 (owes - mn left owes) = 0 then day else done)
 else (wrap64 (left - wrap64 (owes - dsc)), 0, wrap64 (paid + wrap64 (owes - dsc)), dsc, day)
theorem named_calls (k : Nat) (g : Nat) (nm : ByteArray) (s1 s2 s3 s4 s5 s6 owes paid taken done left day dsc : Int) (w0 w : World) (hI : IsS62 w0 w g nm s1 s2 s3 s4 s5 s6 owes paid taken done) (hB : Below w0.heap.size w0 w)
  (hd : jq.f k nm s1 s2 s3 s4 s5 s6 owes paid taken done = some (dsc, nm, s1, s2, s3, s4, s5, s6, owes, paid, taken, done)) :
  Calls Tryz.prog 48 #[.pointer (some ⟨g, 0, none⟩), .int .i64 left, .int .i64 day] w fun e w' => e = .returned (.int .i64 (uQ dsc s1 s5 owes paid taken done left day).1) ∧ IsS62 w0 w' g nm s1 s2 s3 s4 s5 s6 (uQ dsc s1 s5 owes paid taken done left day).2.1 (uQ dsc s1 s5 owes paid taken done left day).2.2.1 (uQ dsc s1 s5 owes paid taken done left day).2.2.2.1 (uQ dsc s1 s5 owes paid taken done left day).2.2.2.2 ∧ Below w0.heap.size w0 w' ∧ jB w w' g none := by
 have hcd := jq.calls k g nm s1 s2 s3 s4 s5 s6 owes paid taken done dsc nm s1 s2 s3 s4 s5 s6 owes paid taken done w0 w hI hB hd
 clear hI hd
 obtain ⟨n, hn⟩ : ∃ n, n = wrap64 (owes - dsc) := ⟨_, rfl⟩
 obtain ⟨t, ht⟩ : ∃ t, t = wrap64 (s1 + s5) := ⟨_, rfl⟩
 have wn : IntKind.i64.wrap (owes - dsc) = n := (i64_w _).trans hn.symm
 have wt : IntKind.i64.wrap (s1 + s5) = t := (i64_w _).trans ht.symm
 by_cases h1 : n > left ∨ day > t
 ·have e : uQ dsc s1 s5 owes paid taken done left day = (wrap64 (left - mn left owes), wrap64 (owes - mn left owes), wrap64 (paid + mn left owes), taken, if wrap64 (owes - mn left owes) = 0 then day else done) := by
   unfold uQ
   rw [← hn, ← ht, if_pos h1]
  rw [e]
  have hp0 := fun w3 (G : w3.heap[g]? = some (.cells #[.string nm, .int .i64 s1, .int .i64 s2, .int .i64 s3, .int .i64 s4, .int .i64 s5, .int .i64 s6, .int .i64 owes, .int .i64 paid, .int .i64 taken, .int .i64 done] 62 (0, 0))) (hg : w0.heap.size ≤ g) (hb : Below w0.heap.size w0 w3) => pay_calls g nm s1 s2 s3 s4 s5 s6 owes paid taken done left day w0 w3 ⟨G, hg⟩ hb
  generalize wrap64 (left - mn left owes) = r1 at hp0 ⊢
  generalize (if wrap64 (owes - mn left owes) = 0 then day else done) = r4 at hp0 ⊢
  generalize wrap64 (owes - mn left owes) = r2 at hp0 ⊢
  generalize wrap64 (paid + mn left owes) = r3 at hp0 ⊢
  have HP0 : Aside _ := hp0
  clear e hn ht hp0
  go_enter Tryz.func48, Tryz.ntmps48
  go_wp2_with (go_at_call 67; refine hcd.mono ?_; rintro e w1 ⟨rfl, hI1, hB1, hK1⟩)
  obtain ⟨HG, hg⟩ := hI1
  have c1 := uD HG
  have c5 := kZ HG
  have c7 := yC HG
  have hp := HP0.out w1.drew HG hg (jW hB1)
  have hK2 : jB w w1.drew g none := hK1
  by_cases x1 : n > left
  ·have d1 : decide (left < n) = true := decide_eq_true x1
   go_wp2_with fail
   go_big_region
   generalize w1.drew = w2 at hp hK2 ⊢
   go_wp2_with (go_at_call 49; refine hp.mono ?_; rintro e w3 ⟨rfl, hI3, hB3, hK3⟩)
   go_ret
   exact ⟨rfl, hI3, hB3, hK2.trans hK3 (Or.inl rfl)⟩
  ·have x2 : day > t := h1.resolve_left x1
   have d1 : decide (left < n) = false := decide_eq_false x1
   have d2 : decide (t < day) = true := decide_eq_true x2
   go_wp2_with fail
   go_big_region
   generalize w1.drew = w2 at hp hK2 ⊢
   go_wp2_with (go_at_call 49; refine hp.mono ?_; rintro e w3 ⟨rfl, hI3, hB3, hK3⟩)
   go_ret
   exact ⟨rfl, hI3, hB3, hK2.trans hK3 (Or.inl rfl)⟩
 ·have x1 : ¬ n > left := fun h => h1 (Or.inl h)
  have x2 : ¬ day > t := fun h => h1 (Or.inr h)
  have d1 : decide (left < n) = false := decide_eq_false x1
  have d2 : decide (t < day) = false := decide_eq_false x2
  obtain ⟨p, hp⟩ : ∃ p, p = wrap64 (paid + n) := ⟨_, rfl⟩
  obtain ⟨r, hr⟩ : ∃ r, r = wrap64 (left - n) := ⟨_, rfl⟩
  have e : uQ dsc s1 s5 owes paid taken done left day = (r, 0, p, dsc, day) := by
   unfold uQ
   rw [← hn, ← ht, if_neg h1, ← hp, ← hr]
  rw [e]
  have wp : IntKind.i64.wrap (paid + n) = p := (i64_w _).trans hp.symm
  have wr : IntKind.i64.wrap (left - n) = r := (i64_w _).trans hr.symm
  clear e hn ht hp hr h1
  go_enter Tryz.func48, Tryz.ntmps48
  go_wp2_with (go_at_call 67; refine hcd.mono ?_; rintro e w1 ⟨rfl, hI1, hB1, hK1⟩)
  obtain ⟨HG, hg⟩ := hI1
  have c1 := uD HG
  have c5 := kZ HG
  have c7 := yC HG
  go_wp2_with fail
  go_big_region
  have G2 : w1.drew.heap[g]? = _ := HG
  have hB2 : Below w0.heap.size w0 w1.drew := jW hB1
  have hK2 : jB w w1.drew g none := hK1
  generalize w1.drew = w2 at G2 hB2 hK2 ⊢
  clear c1 c5 c7 HG
  have c7 := yC G2
  have c8 := kQ G2
  have c9 := cellS62_9 G2
  have c10 := yP G2
  have f7 := qz G2 7
  have f8 := qz G2 8
  have f9 := qz G2 9
  have f10 := qz G2 10
  go_wp2
  go_ret
  exact ⟨rfl, ⟨zU (zU (zU (zU G2 8 _ rfl) 9 _ rfl) 7 _ rfl) 10 _ rfl, hg⟩, jS (jS (jS (jS hB2 hg) hg) hg) hg, (((hK2.set_ 8 _).set_ 9 _).set_ 7 _).set_ 10 _⟩
end Go.Proofs.YtaihfoihlbileaaGreatDoor.R6
